import Derived.Test.YtgchbbjhdeobpaaDoorStr
import Derived.Test.YtgchbbjhdeobpaaDoorShelf
import Derived.Lib.ItoaLen
import Derived.Lib.SmallJoins
import Derived.Lib.AppendIntMem
import Derived.Deep.DeepCutAuto
import Derived.Deep.RegionHeld3
import Derived.Deep.DrawnRows
/-
  Ints as texts: both FormatInt's.
-/
namespace Go.Proofs.YtgchbbjhdeobpaaDoor
set_option linter.unusedVariables false
open Go.RowKit

/-- The table of powers of ten is laid. -/
def KT (w : World) : Prop := Lib.TabIs Tryd.prog w "internal/strconv.uint64pow10" .u64 Lib.pow10Tab
theorem KT.old {w w' : World} (h : KT w) (o : Old w w') : KT w' := Joins.tab_stays (g := 0) (by kernel_rfl) h o (Nat.le_refl _)
theorem conv_newd (w : World) (z : Int) (h0 : 0 ≤ z) (h1 : z < 256) :
    (convert 22 9 (.slice (some ⟨w.heap.size, 0, none⟩) 1 1)).run Tryd.prog (w.alloc (.cells #[.int .u8 z] 5)).drew = .ok (.string (oneB z)) (w.alloc (.cells #[.int .u8 z] 5)).drew :=
  conv_one _ _ z h0 h1 (cell_new1 w _ _)
def rFormatInt (n : Int) : ByteArray := txt (Lib.itoa n)
theorem dec_big {u : Nat} (h : ¬ u < 10) : Lib.decDigits u = Lib.decDigits (u / 10) ++ [UInt8.ofNat (48 + u % 10)] := by
  rw [Lib.decDigits, dif_neg h]
theorem rFormatInt_size (n : Int) (h0 : -9223372036854775808 ≤ n) (h1 : n ≤ 9223372036854775807) : (rFormatInt n).size ≤ 21 := by
  unfold rFormatInt
  rw [txt_size]
  exact Lib.itoa_length_le n h0 h1
theorem decDigits_pos (u : Nat) : 0 < (Lib.decDigits u).length := by
  rw [Lib.decDigits_length]
  have := Lib.nDigits_pos u
  omega
theorem conv_all (z : Int) (h0 : 0 ≤ z) (h1 : z < 256) (W : World) (g : Nat) (h : W.cell? ⟨g, 0, none⟩ = some (.int .u8 z)) :
    (convert 22 9 (.slice (some ⟨g, 0, none⟩) 1 1)).run Tryd.prog W = .ok (.string (oneB z)) W := conv_one W g z h0 h1 h
theorem w64 (x : Int) (h0 : -9223372036854775808 ≤ x) (h1 : x ≤ 9223372036854775807) : IntKind.i64.wrap x = x := by
  simp [IntKind.wrap, IntKind.bits, IntKind.signed]
  omega
theorem w8 (x : Int) (h0 : 0 ≤ x) (h1 : x ≤ 255) : IntKind.u8.wrap x = x := by
  simp [IntKind.wrap, IntKind.bits, IntKind.signed]
  omega
theorem tmod_nat (N : Nat) : (N : Int).tmod 10 = (N : Int) % 10 := Int.tmod_eq_emod_of_nonneg (by omega)
theorem itoa_any (n : Int) (w : World) (b : -9223372036854775808 ≤ n ∧ n ≤ 9223372036854775807) (K : KT w) :
    Calls Tryd.prog 70 #[.int .i64 n] w fun e w' => e = .returned (.string (rFormatInt n)) ∧ Old w w' :=
  (Tryd.strconv_Itoa n b.1 b.2 w K).mono fun e w' h => ⟨h.1, by obtain ⟨k, os, rfl⟩ := h.2; exact Lib.below_grow _ _ (Nat.le_refl _) _ _⟩
set_option maxRecDepth 100000 in
set_option maxHeartbeats 1000000 in
theorem impl_FormatInt (n : Int) (w : World) (b : -9223372036854775808 ≤ n ∧ n ≤ 9223372036854775807) (K : KT w) :
    Calls Tryd.prog 58 #[.int .i64 n] w fun e w' => e = .returned (.string (rFormatInt n)) ∧ Old w w' := by
  go_enter Tryd.func58, Tryd.ntmps58
  go_wp2_with fail
  refine (itoa_any n _ b K).mono ?_
  rintro e w1 ⟨rfl, o1⟩
  go_wp2
  go_ret
  exact ⟨rfl, o1⟩
end Go.Proofs.YtgchbbjhdeobpaaDoor
