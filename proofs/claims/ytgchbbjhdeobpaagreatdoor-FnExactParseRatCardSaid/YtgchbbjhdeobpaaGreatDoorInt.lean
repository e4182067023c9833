import Derived.Test.YtgchbbjhdeobpaaGreatDoorStr
import Derived.Test.YtgchbbjhdeobpaaGreatDoorShelf
import Derived.Lib.ItoaLen
import Derived.Lib.SmallJoins
import Derived.Lib.AppendIntMem
import Derived.Deep.DeepCutAuto
import Derived.Deep.RegionHeld3
import Derived.Deep.DrawnRows
/-
  Ints as texts: both FormatInt's.
-/
namespace Go.Proofs.YtgchbbjhdeobpaaGreatDoor
set_option linter.unusedVariables false
open Go.RowKit

/-- The table of powers of ten is laid. -/
def KT (w : World) : Prop := Lib.TabIs Tryz.prog w "internal/strconv.uint64pow10" .u64 Lib.pow10Tab
theorem KT.old {w w' : World} (h : KT w) (o : Old w w') : KT w' := Joins.tab_stays (g := 1) (by kernel_rfl) h o (Nat.le_refl _)
theorem conv_newd (w : World) (z : Int) (h0 : 0 ≤ z) (h1 : z < 256) :
    (convert 32 9 (.slice (some ⟨w.heap.size, 0, none⟩) 1 1)).run Tryz.prog (w.alloc (.cells #[.int .u8 z] 5)).drew = .ok (.string (oneB z)) (w.alloc (.cells #[.int .u8 z] 5)).drew :=
  conv_one _ _ z h0 h1 (cell_new1 w _ _)
def rFormatInt (n : Int) : ByteArray := txt (Lib.itoa n)
theorem dec_big {u : Nat} (h : ¬ u < 10) : Lib.decDigits u = Lib.decDigits (u / 10) ++ [UInt8.ofNat (48 + u % 10)] := by
  rw [Lib.decDigits, dif_neg h]
theorem rFormatInt_size (n : Int) (h0 : -9223372036854775808 ≤ n) (h1 : n ≤ 9223372036854775807) : (rFormatInt n).size ≤ 21 := by
  unfold rFormatInt
  rw [txt_size]
  exact Lib.itoa_length_le n h0 h1
theorem decDigits_pos (u : Nat) : 0 < (Lib.decDigits u).length := by
  rw [Lib.decDigits_length]
  have := Lib.nDigits_pos u
  omega
theorem conv_all (z : Int) (h0 : 0 ≤ z) (h1 : z < 256) (W : World) (g : Nat) (h : W.cell? ⟨g, 0, none⟩ = some (.int .u8 z)) :
    (convert 32 9 (.slice (some ⟨g, 0, none⟩) 1 1)).run Tryz.prog W = .ok (.string (oneB z)) W := conv_one W g z h0 h1 h
theorem w64 (x : Int) (h0 : -9223372036854775808 ≤ x) (h1 : x ≤ 9223372036854775807) : IntKind.i64.wrap x = x := by
  simp [IntKind.wrap, IntKind.bits, IntKind.signed]
  omega
theorem w8 (x : Int) (h0 : 0 ≤ x) (h1 : x ≤ 255) : IntKind.u8.wrap x = x := by
  simp [IntKind.wrap, IntKind.bits, IntKind.signed]
  omega
theorem tmod_nat (N : Nat) : (N : Int).tmod 10 = (N : Int) % 10 := Int.tmod_eq_emod_of_nonneg (by omega)
set_option maxRecDepth 100000 in
set_option maxHeartbeats 1000000 in
theorem spec_FormatInt_pos (N : Nat) (w : World) (h1 : (N : Int) ≤ 9223372036854775807) :
    Calls Tryz.prog 82 #[.int .i64 (N : Int)] w fun e w' => e = .returned (.string (rFormatInt (N : Int))) ∧ Old w w' := by
  have HR : Hid (rFormatInt (N : Int) = txt (Lib.decDigits N)) := Lib.hid (by unfold rFormatInt Lib.itoa; rw [if_neg (by omega)]; rfl)
  go_enter Tryz.func82, Tryz.ntmps82
  go_wp2
  go_loopw [0, 3] (fun k out wr => ∃ (q : Nat) (l : List UInt8), l.length + Lib.nDigits q ≤ Lib.nDigits N ∧ q ≤ N ∧ k = .int .i64 (q : Int) ∧ out = .string (txt l) ∧ Hid (Lib.decDigits q ++ l = Lib.decDigits N) ∧ Old w wr) (fun k _ _ => (intOf k).toNat)
  case atStart => exact ⟨N, [], by simp, Nat.le_refl _, rfl, rfl, Lib.hid (by simp), Old.refl w⟩
  case round =>
    obtain ⟨q, l, hlen, hq, rfl, rfl, hl, hb⟩ := hrel
    have h20 := Lib.nDigits_le20 N (by omega)
    have hz : (txt l).size ≤ 1000000000 := by rw [txt_size]; omega
    have HL := Lib.hid hlen
    clear hlen h20
    by_cases hpos : 9 < q
    · have hz1 := oneB_size (48 + (q : Int) % 10)
      have hcv := conv_new wr (48 + (q : Int) % 10) (by omega) (by omega)
      go_wp2
      go_roundw
      case rel => exact ⟨q / 10, UInt8.ofNat (48 + q % 10) :: l, by have := HL.out; rw [Lib.nDigits_big (u := q) (by omega)] at this; simp only [List.length_cons]; omega, by omega, by go_num, by rw [← oneB_app _ _ (by omega)]; go_num, Lib.hid (by rw [← hl.out, dec_big (u := q) (by omega)]; simp), hb.alloc hb.size _⟩
      case measure => simp [intOf]; omega
    · have hz1 := oneB_size (48 + (q : Int))
      have hcv := conv_new wr (48 + (q : Int)) (by omega) (by omega)
      have hd : Lib.decDigits q = [UInt8.ofNat (48 + q)] := Lib.decDigits_one (by omega)
      have HD := Lib.hid hd
      clear hd
      go_wp2
      go_ret
      refine ⟨?_, hb.alloc hb.size _⟩
      rw [HR.out, ← hl.out, HD.out, show (48 + (q : Int)) = ((48 + q : Nat) : Int) by omega, oneB_app _ _ (by omega)]
      rfl
set_option maxRecDepth 100000 in
set_option maxHeartbeats 1000000 in
theorem spec_FormatInt_neg (k : Nat) : ∀ (N : Nat) (w : World), N < k → 0 < N → (N : Int) ≤ 9223372036854775808 →
    Calls Tryz.prog 82 #[.int .i64 (-(N : Int))] w fun e w' => e = .returned (.string (txt (45 :: Lib.decDigits N))) ∧ Old w w' := by
  induction k with
  | zero => intro N w h; omega
  | succ k ih =>
    intro N w hk h0 h1
    by_cases h10 : N < 10
    · have hq : (-((N : Int) / 10) == 0) = true := by simp; omega
      have hcv := conv_new w (48 + (N : Int)) (by omega) (by omega)
      have hz1 := oneB_size (48 + (N : Int))
      have HD : Hid (Lib.decDigits N = [UInt8.ofNat (48 + N)]) := Lib.hid (Lib.decDigits_one h10)
      go_enter Tryz.func82, Tryz.ntmps82
      go_wp2
      go_ret
      refine ⟨?_, (Old.refl w).alloc (Nat.le_refl _) _⟩
      rw [HD.out]
      rfl
    · have hq : (-((N : Int) / 10) == 0) = false := by simp; omega
      have IH : ∀ w' : World, Calls Tryz.prog 82 #[.int .i64 (-((N : Int) / 10))] w' fun e w'' => e = .returned (.string (txt (45 :: Lib.decDigits (N / 10)))) ∧ Old w' w'' := by
        have e10 : ((N / 10 : Nat) : Int) = (N : Int) / 10 := by omega
        intro w'
        have := ih (N / 10) w' (by omega) (by omega) (by omega)
        rw [e10] at this
        exact this
      clear ih
      have hw1 := w64 (-((N : Int) / 10)) (by omega) (by omega)
      have hw2 := tmod_nat N
      have hw3 := w64 (48 + (N : Int) % 10) (by omega) (by omega)
      have hw4 := w8 (48 + (N : Int) % 10) (by omega) (by omega)
      have HD : Hid (Lib.decDigits N = Lib.decDigits (N / 10) ++ [UInt8.ofNat (48 + N % 10)]) := Lib.hid (dec_big h10)
      have hz1 := oneB_size (48 + (N : Int) % 10)
      have hz2 : (txt (45 :: Lib.decDigits (N / 10))).size ≤ 1000 := by
        rw [txt_size, List.length_cons, Lib.decDigits_length]
        have := Lib.nDigits_le20 (N / 10) (by omega)
        omega
      have hcv := conv_new w (48 + (N : Int) % 10) (by omega) (by omega)
      have hcvd := conv_newd w (48 + (N : Int) % 10) (by omega) (by omega)
      go_enter Tryz.func82, Tryz.ntmps82
      go_upto_region 4 with fail
      go_cut [2] (fun sl wx => sl = .string (txt (45 :: Lib.decDigits (N / 10)) ++ oneB (48 + (N : Int) % 10)) ∧ Old w wx)
      case first =>
        go_region_with
          (first
          | (go_at_call 82; refine (IH _).mono ?_; rintro e wt ⟨rfl, o6⟩; (first | (have hcw := conv_one wt w.heap.size (48 + (N : Int) % 10) (by omega) (by omega) ((o6.cell (p := ⟨w.heap.size, 0, none⟩) (by simp)).trans (cell_new1 w _ _))) | skip); replace o6 : Old w wt := Below.trans (b := _) oldA (Below.mono o6 leA); have z6 := o6.size; have hcvt := conv_new wt (48 + (N : Int) % 10) (by omega) (by omega))
          | fail)
        all_goals (go_wp2_with fail; go_meet; exact ⟨rfl, Below.trans (b := wt) o6 oldA⟩)
      case rest =>
      obtain ⟨rfl, o6⟩ := hcut
      go_wp2
      go_ret
      refine ⟨?_, o6⟩
      rw [HD.out, show (48 + (N : Int) % 10) = ((48 + N % 10 : Nat) : Int) by omega]
      have e1 : oneB ((48 + N % 10 : Nat) : Int) = txt [UInt8.ofNat (48 + N % 10)] := rfl
      rw [e1, txt_app]
      rfl
theorem spec_FormatInt (n : Int) (w : World) (b : -9223372036854775808 ≤ n ∧ n ≤ 9223372036854775807) :
    Calls Tryz.prog 82 #[.int .i64 n] w fun e w' => e = .returned (.string (rFormatInt n)) ∧ Old w w' := by
  by_cases h : n < 0
  · obtain ⟨N, rfl⟩ : ∃ N : Nat, n = -(N : Int) := ⟨n.natAbs, by omega⟩
    have e : rFormatInt (-(N : Int)) = txt (45 :: Lib.decDigits N) := by
      unfold rFormatInt Lib.itoa
      rw [if_pos h]
      simp
    rw [e]
    exact spec_FormatInt_neg (N + 1) N w (by omega) (by omega) (by omega)
  · obtain ⟨N, rfl⟩ : ∃ N : Nat, n = (N : Int) := ⟨n.toNat, by omega⟩
    exact spec_FormatInt_pos N w (by omega)
theorem itoa_any (n : Int) (w : World) (b : -9223372036854775808 ≤ n ∧ n ≤ 9223372036854775807) (K : KT w) :
    Calls Tryz.prog 117 #[.int .i64 n] w fun e w' => e = .returned (.string (rFormatInt n)) ∧ Old w w' :=
  (Tryz.strconv_Itoa n b.1 b.2 w K).mono fun e w' h => ⟨h.1, by obtain ⟨k, os, rfl⟩ := h.2; exact Lib.below_grow _ _ (Nat.le_refl _) _ _⟩
set_option maxRecDepth 100000 in
set_option maxHeartbeats 1000000 in
theorem impl_FormatInt (n : Int) (w : World) (b : -9223372036854775808 ≤ n ∧ n ≤ 9223372036854775807) (K : KT w) :
    Calls Tryz.prog 93 #[.int .i64 n] w fun e w' => e = .returned (.string (rFormatInt n)) ∧ Old w w' := by
  go_enter Tryz.func93, Tryz.ntmps93
  go_wp2_with fail
  refine (itoa_any n _ b K).mono ?_
  rintro e w1 ⟨rfl, o1⟩
  go_wp2
  go_ret
  exact ⟨rfl, o1⟩
end Go.Proofs.YtgchbbjhdeobpaaGreatDoor
