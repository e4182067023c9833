import Derived.Test.YtkoebpoejafgnaaDoorSplit0
import Derived.Deep.Strs
import Derived.Deep.DeepCutAuto
import Derived.Deep.RegionHeld3
import Derived.Deep.DrawnRows
/-
  The helpers of the laws on slices of strings: comparing, marking, looking at the marks, copying, adding up the sizes.
-/
namespace Go.Proofs.YtkoebpoejafgnaaDoor
set_option linter.unusedVariables false
open Go.RowKit Go.ChangeShapes Go.WideShapes
open Go.Deep (open_strs)

theorem open_srd {H : Type} {enc : TypeId × Value → H} {w : World} {base : Nat} {spare : Nat → Bool} {held : Bool} {a : Option Addr} {n c : Nat} {d : DataW H} {p : List MemPlace}
    (h : DataW.Trod enc Tryd.prog w base spare held 47 (.slice a n c) d p) : ∃ f : Nat → ByteArray, SRd w a n c f ∧ (∀ j, j < n → (f j).size ≤ maxLen) ∧ n ≤ 9223372036854775807 := by
  obtain ⟨fuel, hf⟩ := h
  rcases open_strs Tryd.underlying47 Tryd.underlying9 (by kernel_rfl) hf with ⟨hcs, _⟩ | ⟨x, l, cc, m, Sx, hcs, _, hl, hm, hmm, _, hcell⟩
  · simp [Value.cells] at hcs
    obtain ⟨rfl, rfl, rfl⟩ := hcs
    exact ⟨fun _ => ByteArray.empty, ⟨Nat.le_refl _, fun h => by omega⟩, fun j hj => by omega, by omega⟩
  · simp [Value.cells] at hcs
    obtain ⟨rfl, rfl, rfl⟩ := hcs
    have hnm : n ≤ m := by rw [hmm]; split <;> omega
    refine ⟨Sx, ⟨hl, fun hn => ?_⟩, fun j hj => (hcell j (by omega)).2, by simp only [maxLen] at hm; omega⟩
    obtain ⟨b, off, spot⟩ := x
    have h0 := (hcell 0 (by omega)).1
    obtain rfl : spot = none := by simpa [Addr.add] using World.cell?_spot h0
    refine ⟨b, off, rfl, ?_, fun j hj => ?_⟩
    · have := World.block_lt_of_cell? w _ h0
      simpa [Addr.add] using this
    · have := (hcell j (by omega)).1
      rw [← this]
      congr 1
      unfold Addr.add
      split <;> simp_all

theorem smark_step (j k : Nat) (a b c : ByteArray) (h : j = k → a = b) : (if j = k then b else if j < k then a else c) = if j < k + 1 then a else c := by
  by_cases e : j = k
  · rw [if_pos e, if_pos (by omega), h e]
  · by_cases l : j < k
    · rw [if_neg e, if_pos l, if_pos (by omega)]
    · rw [if_neg e, if_neg l, if_neg (by omega)]
set_option maxRecDepth 100000 in
set_option maxHeartbeats 400000 in
theorem eqStringS_yes (A1 A2 : Option Addr) (n c1 c2 : Nat) (f g : Nat → ByteArray) (lo1 lo2 : Nat) (w : World) (h1 : SRow w lo1 A1 n c1 f) (h2 : SRow w lo2 A2 n c2 g) (he : ∀ j, j < n → f j = g j) (hn : n ≤ 1048577) :
    Calls Tryd.prog 27 #[.slice A1 n c1, .slice A2 n c2] w fun e w' => e = .returned (.bool true) ∧ Old w w' := by
  have He := Lib.hid he
  clear he
  go_enter Tryd.func27, Tryd.ntmps27
  go_wp2
  go_loopw [5] (fun i wr => ∃ (k m : Nat), k ≤ n ∧ i = .int .i64 (k : Int) ∧ wr = w.drewN m) (fun i _ => n - (intOf i).toNat)
  case atStart => exact ⟨0, 0, Nat.zero_le _, rfl, rfl⟩
  case round =>
    obtain ⟨k, m, hk, rfl, rfl⟩ := hrel
    by_cases hlt : k < n
    · obtain ⟨b1, o1, rfl, _, _, _, hc1⟩ := h1.2 (by omega)
      obtain ⟨b2, o2, rfl, _, _, _, hc2⟩ := h2.2 (by omega)
      have hx1 := hc1 k hlt
      have hx2 := hc2 k hlt
      rw [← He.out k hlt] at hx2
      clear hc1 hc2
      go_wp2
      go_quiet (fail)
      go_wp2
      go_roundw
      case rel => exact ⟨k + 1, _, by omega, by go_num, rfl⟩
      case measure => simp [intOf]; omega
    · have : k = n := by omega
      subst this
      go_wp2
      go_ret
      exact ⟨rfl, below_drewN (Old.refl w) m⟩


/-- The mark number k as a text. -/
def mkT (k : Int) : ByteArray := if k ≤ 0 then ⟨#[109, 48]⟩ else ⟨#[109]⟩ ++ txt (decX k.toNat)
def szOfS : Value → Nat | .string t => t.size | _ => 0
set_option maxRecDepth 100000 in
set_option maxHeartbeats 1000000 in
theorem markText_any (m : Int) (w : World) (hk0 : 0 < m) (hk1 : m ≤ 1000000000) :
    Calls Tryd.prog 76 #[.int .i64 m] w fun e w' => e = .returned (.string (mkT m)) ∧ Old w w' := by
  obtain ⟨M, rfl⟩ : ∃ M : Nat, m = (M : Int) := ⟨m.toNat, by omega⟩
  have HR : Hid (mkT (M : Int) = ⟨#[109]⟩ ++ txt (decX M)) := Lib.hid (by unfold mkT; rw [if_neg (by omega)]; rfl)
  have hk2 : ¬ (M : Int) ≤ 0 := by omega
  go_enter Tryd.func76, Tryd.ntmps76
  go_wp2
  go_loopw [0, 3] (fun k out wr => ∃ (q : Nat) (l : List UInt8), l.length + q ≤ M ∧ k = .int .i64 (q : Int) ∧ out = .string (txt l) ∧ Hid (decX q ++ l = decX M) ∧ Old w wr) (fun k _ _ => (intOf k).toNat)
  case atStart => exact ⟨M, [], by simp, rfl, rfl, Lib.hid (by simp), Old.refl w⟩
  case round =>
    obtain ⟨q, l, hq, rfl, rfl, hl, hb⟩ := hrel
    have hz : (txt l).size ≤ 1000000000 := by rw [txt_size]; omega
    by_cases hpos : 0 < q
    · have hz1 := oneB_size (48 + (q : Int) % 10)
      have hcv := conv_new wr (48 + (q : Int) % 10) (by omega) (by omega)
      go_wp2
      go_roundw
      case rel => exact ⟨q / 10, UInt8.ofNat (48 + q % 10) :: l, by simp only [List.length_cons]; omega, by go_num, by rw [← oneB_app _ _ (by omega)]; go_num, Lib.hid (by rw [← hl.out, decX_step hpos]; simp), hb.alloc hb.size _⟩
      case measure => simp [intOf]; omega
    · have : q = 0 := by omega
      subst this
      go_wp2
      go_ret
      exact ⟨by rw [HR.out, ← hl.out]; rfl, hb⟩
theorem grownBy_old {a w w' : World} {row : Option Nat} (h : a.grownBy w row) (o : Old w w') : a.grownBy w' row :=
  ⟨o.os.trans h.os, o.tape.trans h.tape, o.output.trans h.output, Nat.le_trans h.size o.size, fun i hi hne => (o.block i (Nat.lt_of_lt_of_le hi h.size)).trans (h.block i hi hne)⟩
set_option maxRecDepth 100000 in
set_option maxHeartbeats 400000 in
theorem markStringS_any (A : Option Addr) (n c : Nat) (f : Nat → ByteArray) (lo : Nat) (m : Int) (w : World) (h : SRow w lo A n c f) (hn : n ≤ 1048577) (hk0 : 0 < m) (hk1 : m ≤ 1000000) :
    Calls Tryd.prog 28 #[.slice A n c, .int .i64 m] w fun e w' => e = .returned (.int .i64 (m + n)) ∧ SRow w' lo A n c (fun j => mkT (m + j)) ∧ w.grownBy w' (rowOf A n) := by
  go_enter Tryd.func28, Tryd.ntmps28
  go_wp2
  go_loopw [1, 5] (fun v i wr => ∃ k : Nat, k ≤ n ∧ i = .int .i64 (k : Int) ∧ v = .int .i64 (m + k) ∧ SRow wr lo A n c (fun j => if j < k then mkT (m + j) else f j) ∧ w.grownBy wr (rowOf A n)) (fun _ i _ => n - (intOf i).toNat)
  case atStart => exact ⟨0, Nat.zero_le _, rfl, by simp, h.congr fun j _ => by simp, World.grownBy.refl _ _⟩
  case round =>
    obtain ⟨k, hk, rfl, rfl, hR, hg⟩ := hrel
    by_cases hlt : k < n
    · go_wp2_with fail
      refine (markText_any (m + k) _ (by omega) (by omega)).mono ?_
      rintro e w2 ⟨rfl, o2⟩
      have hR2 := hR.below o2 (Nat.le_refl _)
      have hg2 := grownBy_old hg o2
      clear hg hR
      obtain ⟨b, o, rfl, hl, hs, hf, hc⟩ := hR2.2 (by omega)
      have hx := hc k hlt
      have hy := hf (o + k)
      clear hc hf
      have hg' : w.grownBy w2 (some b) := by have := hg2; rw [rowOf, if_neg (by omega)] at this; exact this
      clear hg2
      go_wp2
      go_roundw
      case rel => exact ⟨k + 1, by omega, by go_num, by go_num, (hR2.set hlt (mkT (m + k))).congr (fun j _ => smark_step j k (mkT (m + j)) (mkT (m + k)) (f j) (fun e => by rw [e])), by rw [rowOf, if_neg (by omega)]; exact only_setCell hg' rfl _⟩
      case measure => simp [intOf]; omega
    · have e : k = n := by omega
      subst e
      go_wp2
      go_ret
      exact ⟨rfl, hR.congr fun j hj => by simp [hj], hg⟩
set_option maxRecDepth 100000 in
set_option maxHeartbeats 400000 in
theorem heldStringS_yes (A : Option Addr) (n c : Nat) (f : Nat → ByteArray) (lo : Nat) (k : Int) (w : World) (h : SRow w lo A n c f) (he : ∀ j, j < n → f j = mkT (k + j)) (hn : n ≤ 1048577) (hk0 : 0 < k) (hk1 : k ≤ 1000000) :
    Calls Tryd.prog 29 #[.slice A n c, .int .i64 k] w fun e w' => e = .returned (.int .i64 (k + n)) ∧ Old w w' := by
  have He := Lib.hid he
  clear he
  go_enter Tryd.func29, Tryd.ntmps29
  go_wp2
  go_loopw [1, 5] (fun v i wr => ∃ j : Nat, j ≤ n ∧ i = .int .i64 j ∧ v = .int .i64 (k + j) ∧ Old w wr) (fun _ i _ => n - (intOf i).toNat)
  case atStart => exact ⟨0, Nat.zero_le _, rfl, by simp, Old.refl w⟩
  case round =>
    obtain ⟨j, hj, rfl, rfl, hb⟩ := hrel
    by_cases hlt : j < n
    · have hR := h.below hb (Nat.le_refl _)
      obtain ⟨b, o, rfl, _, _, _, hc⟩ := hR.2 (by omega)
      have hx := hc j hlt
      rw [He.out j hlt] at hx
      clear hc
      have hbl : b < wr.heap.size := by assumption
      go_upto_region 4 with fail
      go_cut [18] (fun sl wx => sl = .bool false ∧ Old wr wx)
      case first =>
        go_region_held3 (fun w' => w'.cell? ⟨b, o + j, none⟩ = some (.string (mkT (k + (j : Int))))) (go_keep)
          (first
          | (go_at_call 76; refine (markText_any (k + (j : Int)) _ (by omega) (by omega)).mono ?_; rintro e wt ⟨rfl, o6⟩; replace o6 : Old wr wt := Below.trans (b := _) oldA (Below.mono o6 leA); have hx2 := (o6.cell (p := ⟨b, o + j, none⟩) hbl).trans hx; clear hx)
          | fail)
        all_goals (go_wp2_with fail; go_meet; exact ⟨rfl, Below.trans (b := _) o6 oldA⟩)
      case rest =>
      obtain ⟨rfl, o6⟩ := hcut
      go_wp2
      go_roundw
      case rel => exact ⟨j + 1, by omega, by go_num, by go_num, Old.trans hb o6⟩
      case measure => simp [intOf]; omega
    · have e : j = n := by omega
      subst e
      go_wp2
      go_ret
      exact ⟨rfl, hb⟩
end Go.Proofs.YtkoebpoejafgnaaDoor
