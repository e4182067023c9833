import Derived.BigQuiet
import Derived.ChangeOld
import Derived.Deep.DeepCutAuto
import Derived.Deep.DrawnRows
import Derived.Deep.OwnRows
import Derived.Deep.QuietTactic
import Derived.Deep.RegionHeld3
import Derived.Deep.RegionWith
import Derived.Deep.Upon
import Derived.IntWalk
import Derived.JoinedOf
import Derived.KernelRfl
import Derived.Laws.FloatArith
import Derived.Laws.IdiomStrings
import Derived.Lib.AppendIntMem
import Derived.Lib.AppendStr
import Derived.Lib.AtoiAllCases
import Derived.Lib.AtoiErrMem
import Derived.Lib.Bytealg
import Derived.Lib.ConvBytes
import Derived.Lib.Hide
import Derived.Lib.IndexLaws
import Derived.Lib.ItoaLen
import Derived.Lib.ItoaNum
import Derived.Lib.Join
import Derived.Lib.SmallJoins
import Derived.Lib.Strings
import Derived.Lib.UnsafeStr
import Derived.OpenShut
import Derived.ProofKit
import Derived.ShutString
import Derived.Test.YtgchbbjhdeobpaaGreatDoorRows
import Derived.Test.YtgchbbjhdeobpaaGreatDoorShelf
import Derived.WalkKit
import Derived.WalkLawsBesides
import Derived.WalkSpells
import Ieee.Arith
import Derived.Test.YtgchbbjhdeobpaaGreatDoorW1
import Derived.Test.YtgchbbjhdeobpaaGreatDoorW2
import Derived.Test.YtgchbbjhdeobpaaGreatDoorW3
import Derived.Test.YtgchbbjhdeobpaaGreatDoorW4
import Derived.Test.YtgchbbjhdeobpaaGreatDoorW5
import Derived.Test.YtgchbbjhdeobpaaGreatDoorW6
import Derived.Test.YtgchbbjhdeobpaaGreatDoorW7
import Derived.Test.YtgchbbjhdeobpaaGreatDoorW8
import Derived.Test.YtgchbbjhdeobpaaGreatDoorW9
import Derived.Test.YtgchbbjhdeobpaaGreatDoorW10
import Derived.Test.YtgchbbjhdeobpaaGreatDoorW11
import Derived.Test.YtgchbbjhdeobpaaGreatDoorW12
import Derived.Test.YtgchbbjhdeobpaaGreatDoorW13
import Derived.Test.YtgchbbjhdeobpaaGreatDoorW14
import Derived.Test.YtgchbbjhdeobpaaGreatDoorW17
import Derived.Test.YtgchbbjhdeobpaaGreatDoorW19
import Derived.Test.YtgchbbjhdeobpaaGreatDoorW21
import Derived.Test.YtgchbbjhdeobpaaGreatDoorW22
/- What the claim's proof reaches of: NatTxt, BigTxt, RatTxt, DecLaw, DecBig, DecQ, ParQ. -/
namespace Go.Proofs.YtgchbbjhdeobpaaGreatDoor
set_option linter.unusedVariables false
open Go.RowKit

def pc (f : Nat → Int) (n k : Nat) : ByteArray := if k = 0 then rFormatInt (f (n - 1)) else rPadZeros (rFormatInt (f (n - 1 - k))) 9
/-- The text of the first k limbs from above. -/
def fT (f : Nat → Int) (n : Nat) : Nat → ByteArray
  | 0 => ByteArray.empty
  | k + 1 => fT f n k ++ pc f n k
theorem fT_one (f : Nat → Int) (n : Nat) : fT f n 1 = rFormatInt (f (n - 1)) := by
  show ByteArray.empty ++ pc f n 0 = _
  unfold pc
  simp
theorem fT_step (f : Nat → Int) {n m k : Nat} (h : m + 1 + k = n) (hk : 0 < k) : fT f n (k + 1) = fT f n k ++ rPadZeros (rFormatInt (f m)) 9 := by
  rw [fT]
  unfold pc
  rw [if_neg (by omega), show n - 1 - k = m by omega]
theorem pad9_size (s : ByteArray) (h : s.size ≤ 21) : (rPadZeros s 9).size ≤ 30 := by
  unfold rPadZeros
  rw [if_pos (by omega), padB_size]
  omega
theorem fT_size (f : Nat → Int) (n : Nat) (hf : ∀ j, j < n → 0 ≤ f j ∧ f j ≤ 999999999) : ∀ k, k ≤ n → (fT f n k).size ≤ 30 * k
  | 0, _ => by simp [fT]
  | k + 1, hk => by
    have ih := fT_size f n hf k (by omega)
    have hp : (pc f n k).size ≤ 30 := by
      unfold pc
      split
      · have := hf (n - 1) (by omega)
        have := rFormatInt_size (f (n - 1)) (by omega) (by omega)
        omega
      · have := hf (n - 1 - k) (by omega)
        exact pad9_size _ (rFormatInt_size _ (by omega) (by omega))
    rw [fT, ByteArray.size_append]
    omega
open Classical in
noncomputable def rFormatNat (n : Nat) (f : Nat → Int) : ByteArray := if okP n f then (if n = 0 then ⟨#[48]⟩ else fT f n n) else ByteArray.empty
def szN : Value → Nat | .int _ i => (i + 1).toNat | _ => 0
/-! the builder -/
abbrev BtAt (B b : Nat) (p : Value) (bs : List Value) (w : World) : Prop := Lib.BuilderAt 86 5 B b p bs w
abbrev BtIs (B b : Nat) (bs : List Value) (w : World) : Prop := Lib.IsBuilder 86 5 B b bs w
set_option maxRecDepth 100000 in
set_option maxHeartbeats 1000000 in
theorem copyCheck_used (b : Nat) (w : World) (h0 : w.cell? ⟨b, 0, none⟩ = some (.pointer (some ⟨b, 0, none⟩))) :
    Calls Tryz.prog 116 #[.pointer (some ⟨b, 0, none⟩)] w fun e w' => e = .returned (.tuple #[]) ∧ w' = w := by
  obtain ⟨j, hj, _⟩ := Option.map_eq_some_iff.1 Tryz.Builder_Extra_169.sizeBuilder
  go_enter Tryz.func116, Tryz.ntmps116
  go_wp2
  rw [Lib.run_neq_ptr_same w _ Tryz.underlying84 hj]
  go_wp2
  go_end0
  exact ⟨rfl, rfl⟩
set_option maxRecDepth 100000 in
set_option maxHeartbeats 1000000 in
theorem copyCheck_fresh (b : Nat) (w : World) (h0 : w.cell? ⟨b, 0, none⟩ = some (.pointer none)) (hsh : w.shape? b = some (86, 2)) (hfz : w.frozen? ⟨b, 0, none⟩ = false) :
    Calls Tryz.prog 116 #[.pointer (some ⟨b, 0, none⟩)] w fun e w' => e = .returned (.tuple #[]) ∧ w' = w.setCell ⟨b, 0, none⟩ (.pointer (some ⟨b, 0, none⟩)) := by
  obtain ⟨j, hj, hjs⟩ := Option.map_eq_some_iff.1 Tryz.Builder_Extra_169.sizeBuilder
  go_enter Tryz.func116, Tryz.ntmps116
  go_wp2
  rw [Lib.run_to_unsafe w ⟨b, 0, none⟩ Tryz.underlying84 Tryz.underlying114 hj (by rw [hjs]; decide) hsh (Nat.zero_lt_succ 1)]
  simp only [Result.andThen]
  rw [Oper.upon_value]
  go_wp2
  rw [run_callFunc_extern Tryz.func130 (by kernel_rfl) (by kernel_rfl) (by kernel_rfl) (e := Extern.AbiNoEscape.same) (by kernel_rfl)]
  rw [Lib.run_noEscape]
  simp only [Result.andThen]
  rw [Oper.upon_value]
  go_wp2
  rw [Lib.run_from_unsafe w ⟨b, 0, none⟩ Tryz.underlying114 Tryz.underlying84 hj hsh Tryz.Builder_Extra_169.liesBuilder]
  simp only [Result.andThen]
  rw [Oper.upon_value]
  go_wp2
  go_end0
  exact ⟨rfl, rfl⟩
theorem copyCheck_any (B b : Nat) (bs : List Value) (w : World) (h : BtIs B b bs w) :
    Calls Tryz.prog 116 #[.pointer (some ⟨b, 0, none⟩)] w fun e w' => e = .returned (.tuple #[]) ∧ (BtAt B b (.pointer (some ⟨b, 0, none⟩)) bs w' ∧ Below B w w') := by
  rcases h with h | h
  · refine (copyCheck_fresh b w h.cell0 h.shape h.frozen0).mono ?_
    rintro e w' ⟨rfl, rfl⟩
    exact ⟨rfl, h.used _, (Below.refl B w).setCell (p := ⟨b, 0, none⟩) h.1 _⟩
  · refine (copyCheck_used b w h.cell0).mono ?_
    rintro e w' ⟨rfl, rfl⟩
    exact ⟨rfl, h, Below.refl B _⟩
set_option maxRecDepth 100000 in
set_option maxHeartbeats 1000000 in
theorem writeString_any (B b : Nat) (bs : List Value) (s : ByteArray) (w : World) (h : BtIs B b bs w) (hlen : bs.length + s.size ≤ 140737488355328) (hBw : B ≤ w.heap.size) :
    Calls Tryz.prog 92 #[.pointer (some ⟨b, 0, none⟩), .string s] w fun e w' => e = .returned (.tuple #[.int .i64 s.size, .nilIface]) ∧ (BtAt B b (.pointer (some ⟨b, 0, none⟩)) (bs ++ Lib.strCells s) w' ∧ Below B w w') := by
  obtain ⟨i0, hi, hz0, hz1, hz2⟩ := info_parts Tryz.Builder_Extra_169.infoByte
  go_enter Tryz.func92, Tryz.ntmps92
  go_wp2_with fail
  refine (copyCheck_any B b bs _ h).mono ?_
  rintro e w1 ⟨rfl, h1, hb1⟩
  obtain ⟨hB, v, hbk, hown, hne⟩ := h1
  have c0 : w1.cell? ⟨b, 0, none⟩ = some (.pointer (some ⟨b, 0, none⟩)) := by rw [Lib.cell_of_heap hbk]; rfl
  have c1 : w1.cell? ⟨b, 1, none⟩ = some v := by rw [Lib.cell_of_heap hbk]; rfl
  go_wp2_with (at_builtin; refine Lib.wpList_append_own_string _ rfl _ _ 32 9 rfl B 5 i0 Tryz.underlying32 Tryz.underlying9 hi hz0 hz1 hz2 _ _ _ rfl hown s rfl ?c3 ?c4 ?c5 ?_)
  case c3 => unfold maxLen; omega
  case c4 => omega
  case c5 => have := hb1.size; omega
  intro v' w2 hown' hgrow _
  have hlt : b < w1.heap.size := by
    rcases Nat.lt_or_ge b w1.heap.size with h' | h'
    · exact h'
    · simp [Array.getElem?_eq_none h'] at hbk
  have hb2 : w2.heap[b]? = some (.cells #[.pointer (some ⟨b, 0, none⟩), v] 86 (0, 0)) := by
    rw [hgrow.block b hlt (fun e => hne e.symm)]
    exact hbk
  have d0 : w2.cell? ⟨b, 0, none⟩ = some (.pointer (some ⟨b, 0, none⟩)) := by rw [Lib.cell_of_heap hb2]; rfl
  have d1 : w2.cell? ⟨b, 1, none⟩ = some v := by rw [Lib.cell_of_heap hb2]; rfl
  have f1 : w2.frozen? ⟨b, 1, none⟩ = false := Lib.frozen_of_heap hb2 1
  obtain ⟨ao, n', cap, rfl⟩ : ∃ ao n' cap, v' = .slice ao n' cap := by
    rcases hown'.2 with ⟨hv, _⟩ | ⟨g, cap, cur, hv, _⟩
    · exact ⟨_, _, _, hv⟩
    · exact ⟨_, _, _, hv⟩
  go_wp2
  go_ret2
  refine ⟨rfl, ?_, ?_⟩
  · exact Lib.BuilderAt.put (T := 86) (e := 5) hB hb2 (bs' := bs ++ Lib.strCells s) (by simpa [Lib.strCells_length] using hown') Tryz.Builder_Extra_169.neB5
  · exact (hb1.grown hgrow (by have := hb1.size; omega) (fun k hk => (hown.lt k hk).1)).setCell (p := ⟨b, 1, none⟩) hB _
theorem BtAt.old {B b : Nat} {p : Value} {bs : List Value} {w w' : World} (h : BtAt B b p bs w) (o : Old w w') : BtAt B b p bs w' := by
  obtain ⟨hB, v, hbk, hown, hne⟩ := h
  refine ⟨hB, v, by rw [o.block b (Array.getElem?_eq_some_iff.1 hbk).1]; exact hbk, ?_, hne⟩
  refine ⟨hown.1, ?_⟩
  rcases hown.2 with hn | ⟨g, cap, cur, rfl, hg, hgg, rest⟩
  · exact .inl hn
  · exact .inr ⟨g, cap, cur, rfl, hg, by rw [o.block g (Array.getElem?_eq_some_iff.1 hgg).1]; exact hgg, rest⟩
theorem BtIs.old {B b : Nat} {bs : List Value} {w w' : World} (h : BtIs B b bs w) (o : Old w w') : BtIs B b bs w' := by
  rcases h with h | h
  · exact .inl (BtAt.old h o)
  · exact .inr (BtAt.old h o)
theorem write_any (B b : Nat) (t s : ByteArray) (w : World) (h : BtIs B b (Lib.byteCells t.data.toList) w) (hlen : t.size + s.size ≤ 140737488355328) (hBw : B ≤ w.heap.size) :
    Calls Tryz.prog 92 #[.pointer (some ⟨b, 0, none⟩), .string s] w fun e w' => e = .returned (.tuple #[.int .i64 s.size, .nilIface]) ∧ (BtIs B b (Lib.byteCells (t ++ s).data.toList) w' ∧ Below B w w') := by
  refine (writeString_any B b _ s w h (by rw [Lib.byteCells_length]; exact hlen) hBw).mono ?_
  rintro e w' ⟨rfl, h1, h2⟩
  refine ⟨rfl, .inr ?_, h2⟩
  rw [ByteArray.data_append, Array.toList_append, Lib.byteCells_append]
  exact h1
set_option maxRecDepth 100000 in
set_option maxHeartbeats 1000000 in
theorem formatNat_zero (A : Option Addr) (c : Nat) (w : World) :
    Calls Tryz.prog 64 #[.slice A 0 c] w fun e w' => e = .returned (.string ⟨#[48]⟩) ∧ Old w w' := by
  go_enter Tryz.func64, Tryz.ntmps64
  go_wp2
  go_ret
  exact ⟨rfl, Old.refl w⟩
set_option maxRecDepth 100000 in
set_option maxHeartbeats 1000000 in
theorem formatNat_yes (A : Option Addr) (n c : Nat) (f : Nat → Int) (lo : Nat) (w : World) (h : Row w lo A n c f) (hok : okP n f) (h0 : 0 < n) (K : KT w) :
    Calls Tryz.prog 64 #[.slice A n c] w fun e w' => e = .returned (.string (fT f n n)) ∧ Old w w' := by
  have hn := hok.1
  have HG := Lib.hid hok.2.1
  have HS := Lib.hid (fT_size f n hok.2.1)
  clear hok
  obtain ⟨b, o, rfl, hbl, hbs, hfz, hc⟩ := h.2 h0
  obtain ⟨p, hp⟩ : ∃ p : Nat, n = p + 1 := ⟨n - 1, by omega⟩
  subst hp
  have hx := hc p (by omega)
  clear hc hfz
  have e1 : ((p + 1 : Nat) : Int) - 1 = (p : Int) := by omega
  have hF : (fT f (p + 1) 1) = rFormatInt (f p) := fT_one f (p + 1)
  have HF := Lib.hid hF
  clear hF
  have hne : ((p : Int) + 1 == 0) = false := by simp; omega
  have gp := HG.out p (by omega)
  have GP := Lib.hid gp
  have hfp := rFormatInt_size (f p) (by omega) (by omega)
  clear gp
  have HB := Lib.hid (Lib.fresh_isBuilder 86 5 w)
  go_enter Tryz.func64, Tryz.ntmps64
  go_wp2_with fail
  refine (impl_FormatInt (f p) _ (by have := GP.out; omega) (K.old oldA)).mono ?_
  rintro e w2 ⟨rfl, o2⟩
  have b2 := BtIs.old HB.out o2
  have z2 := o2.size
  replace o2 : Old w w2 := Below.trans (b := _) oldA (Below.mono o2 leA)
  have b2' : BtIs w.heap.size w.heap.size (Lib.byteCells ByteArray.empty.data.toList) w2 := b2
  have zw := o2.size
  have K2 := K.old o2
  go_wp2_with fail
  refine (write_any w.heap.size w.heap.size ByteArray.empty (rFormatInt (f p)) _ b2' (by simp; omega) zw).mono ?_
  rintro e w3 ⟨rfl, b3, o3⟩
  rw [show ByteArray.empty ++ rFormatInt (f p) = rFormatInt (f p) by simp] at b3
  have O3 := Below.trans o2 o3
  have K3 := K.old O3
  go_wp2
  go_loopw [4] (fun i wr => ∃ j k : Nat, j + k = p + 1 ∧ 0 < k ∧ i = .int .i64 ((j : Int) - 1) ∧ BtIs w.heap.size w.heap.size (Lib.byteCells (fT f (p + 1) k).data.toList) wr ∧ Old w wr) (fun i _ => szN i)
  case atStart => exact ⟨p, 1, rfl, by omega, congrArg (Value.int .i64) (by omega), by rw [HF.out]; exact b3, O3⟩
  case round =>
    obtain ⟨j, k, hj, hk, rfl, hbt, hb⟩ := hrel
    have zr := hb.size
    rcases j with _ | m
    · obtain rfl : k = p + 1 := by omega
      rw [show ((0 : Nat) : Int) - 1 = -1 by omega]
      go_wp2_with fail
      refine (Tryz.Builder_String_any w.heap.size w.heap.size _ _ hbt zr).mono ?_
      rintro e w4 ⟨rfl, o4⟩
      go_wp2
      go_ret
      exact ⟨rfl, Below.trans hb o4⟩
    · have hi : ((m + 1 : Nat) : Int) - 1 = (m : Int) := by omega
      rw [hi]
      have hR := h.below hb (Nat.le_refl _)
      obtain ⟨b', o', e', _, _, _, hc'⟩ := hR.2 (by omega)
      injection e' with e'
      injection e' with e1' e2'
      subst e1' e2'
      have hxm := hc' m (by omega)
      clear hc' hR
      have gm := HG.out m (by omega)
      have GM := Lib.hid gm
      clear gm
      have hsz := HS.out k (by omega)
      have hsz1 : (fT f (p + 1) k).size ≤ 1860 := by omega
      have hp9 := pad9_size (rFormatInt (f m)) (rFormatInt_size (f m) (by have := GM.out; omega) (by have := GM.out; omega))
      have hfi := rFormatInt_size (f m) (by have := GM.out; omega) (by have := GM.out; omega)
      have HST := Lib.hid (fT_step f (n := p + 1) (m := m) (k := k) (by omega) hk)
      have Kr := K.old hb
      clear hsz
      go_wp2_with fail
      refine (impl_FormatInt (f m) _ (by have := GM.out; omega) Kr).mono ?_
      rintro e w4 ⟨rfl, o4⟩
      go_wp2_with fail
      refine (impl_PadZeros (rFormatInt (f m)) 9 _ (by unfold maxLen; omega) (by omega)).mono ?_
      rintro e w5 ⟨rfl, o5⟩
      have O5 := Old.trans o4 o5
      have hbt5 := BtIs.old hbt O5
      have z5 := O5.size
      go_wp2_with fail
      refine (write_any w.heap.size w.heap.size (fT f (p + 1) k) (rPadZeros (rFormatInt (f m)) 9) _ hbt5 (by omega) (by omega)).mono ?_
      rintro e w6 ⟨rfl, b6, o6⟩
      go_wp2
      go_roundw
      case rel => exact ⟨m, k + 1, by omega, by omega, by go_num, by rw [HST.out]; exact b6, Below.trans hb (Below.trans (Below.mono O5 zr) o6)⟩
      case measure => simp [szN]
theorem formatNat_any (A : Option Addr) (n c lo : Nat) (f : Nat → Int) (w : World) (h : Row w lo A n c f) (hok : okP n f) (K : KT w) :
    Calls Tryz.prog 64 #[.slice A n c] w fun e w' => e = .returned (.string (rFormatNat n f)) ∧ Old w w' := by
  by_cases h0 : n = 0
  · subst h0
    rw [show rFormatNat 0 f = ⟨#[48]⟩ by unfold rFormatNat; rw [if_pos hok, if_pos rfl]]
    exact formatNat_zero A c w
  · rw [show rFormatNat n f = fT f n n by unfold rFormatNat; rw [if_pos hok, if_neg h0]]
    exact formatNat_yes A n c f lo w h hok (by omega) K
end Go.Proofs.YtgchbbjhdeobpaaGreatDoor

namespace Go.Proofs.YtgchbbjhdeobpaaGreatDoor
set_option linter.unusedVariables false
open Go.RowKit

theorem rFormatNat_size (n : Nat) (f : Nat → Int) : (rFormatNat n f).size ≤ 1800 := by
  unfold rFormatNat
  split
  · rename_i h
    split
    · show 1 ≤ 1800; omega
    · have := fT_size f n h.2.1 n (Nat.le_refl _)
      have := h.1
      omega
  · show 0 ≤ 1800; omega
/-- The text of a big integer that is well formed. -/
noncomputable def bigT (b : Bool) (n : Nat) (f : Nat → Int) : ByteArray := if b = true then ⟨#[45]⟩ ++ rFormatNat n f else rFormatNat n f
theorem bigT_size (b : Bool) (n : Nat) (f : Nat → Int) : (bigT b n f).size ≤ 1801 := by
  have := rFormatNat_size n f
  unfold bigT
  split
  · rw [ByteArray.size_append]
    have : (⟨#[45]⟩ : ByteArray).size = 1 := rfl
    omega
  · omega
set_option maxRecDepth 100000 in
set_option maxHeartbeats 1000000 in
theorem formatBig_any (b : Bool) (A : Option Addr) (n c lo : Nat) (f : Nat → Int) (w : World) (h : Row w lo A n c f) (hok : okP n f) (K : KT w) :
    Calls Tryz.prog 63 #[.agg #[.bool b, .slice A n c]] w fun e w' => e = .returned (.string (bigT b n f)) ∧ Old w w' := by
  have hsz := rFormatNat_size n f
  have HK := Lib.hid hok
  clear hok
  cases b with
  | true =>
    have HB : Hid (bigT true n f = ⟨#[45]⟩ ++ rFormatNat n f) := Lib.hid rfl
    go_enter Tryz.func63, Tryz.ntmps63
    go_wp2_with fail
    refine (formatNat_any A n c lo f _ (h.below (B := w.heap.size) oldA (Nat.le_refl _)) HK.out (K.old oldA)).mono ?_
    rintro e w2 ⟨rfl, o2⟩
    go_wp2
    go_ret
    exact ⟨by rw [HB.out]; rfl, Below.trans (b := _) oldA (Below.mono o2 leA)⟩
  | false =>
    have HB : Hid (bigT false n f = rFormatNat n f) := Lib.hid rfl
    go_enter Tryz.func63, Tryz.ntmps63
    go_wp2_with fail
    refine (formatNat_any A n c lo f _ (h.below (B := w.heap.size) oldA (Nat.le_refl _)) HK.out (K.old oldA)).mono ?_
    rintro e w2 ⟨rfl, o2⟩
    go_wp2
    go_ret
    exact ⟨by rw [HB.out]; rfl, Below.trans (b := _) oldA (Below.mono o2 leA)⟩
end Go.Proofs.YtgchbbjhdeobpaaGreatDoor

namespace Go.Proofs.YtgchbbjhdeobpaaGreatDoor
set_option linter.unusedVariables false
open Go.RowKit Num

/-- The text of a valid fraction. -/
noncomputable def ratT (b : Bool) (n : Nat) (f : Nat → Int) (m : Nat) (g : Nat → Int) : ByteArray := if natX m g = 1 then bigT b n f else bigT b n f ++ ⟨#[47]⟩ ++ rFormatNat m g
open Classical in
noncomputable def rFormatRat (b : Bool) (n : Nat) (f : Nat → Int) (m : Nat) (g : Nat → Int) : ByteArray := if okR b n f m g then ratT b n f m g else ByteArray.empty
theorem ratT_size (b : Bool) (n : Nat) (f : Nat → Int) (m : Nat) (g : Nat → Int) : (ratT b n f m g).size ≤ 3602 := by
  have h1 := bigT_size b n f
  have h2 := rFormatNat_size m g
  have h3 : (⟨#[47]⟩ : ByteArray).size = 1 := rfl
  unfold ratT
  split
  · omega
  · rw [ByteArray.size_append, ByteArray.size_append]
    omega
theorem slash_size (a : ByteArray) (h : a.size ≤ 1801) : (a ++ ⟨#[47]⟩).size ≤ 1802 := by
  rw [ByteArray.size_append]
  have : (⟨#[47]⟩ : ByteArray).size = 1 := rfl
  omega
theorem okP_len {m : Nat} {g : Nat → Int} (h : okP m g) : m = len (natX m g) ∧ ∀ j, j < m → g j = digI (natX m g) j := ⟨(natX_spec h).1, (natX_spec h).2.2⟩
set_option maxRecDepth 100000 in
set_option maxHeartbeats 8000000 in
theorem formatRat_any (b : Bool) (A : Option Addr) (n c lo : Nat) (f : Nat → Int) (D : Option Addr) (m e u : Nat) (g : Nat → Int) (w : World) (h : Row w lo A n c f) (k : Row w u D m e g) (hok : okR b n f m g) (K : KT w) :
    Calls Tryz.prog 29 #[.agg #[.bool b, .slice A n c, .slice D m e]] w fun e' w' => e' = .returned (.string (ratT b n f m g)) ∧ Old w w' := by
  have HO := Lib.hid hok
  have hn : n ≤ 1048576 := by have := hok.2.2.2.1; omega
  have hm : m ≤ 1048576 := by have := hok.2.2.2.2.1; omega
  clear hok
  by_cases h1n : natX m g = 1
  · have HN : Hid (decide (natX m g = 1) = true) := Lib.hid (decide_eq_true h1n)
    have HR : Hid (ratT b n f m g = bigT b n f) := Lib.hid (by unfold ratT; rw [if_pos h1n])
    clear h1n
    go_enter Tryz.func29, Tryz.ntmps29
    obtain ⟨w1, hw1⟩ : ∃ w1, w1 = w.alloc (.cells #[.bool b, .slice A n c, .slice D m e] 26) := ⟨_, rfl⟩
    have B1 : Bx w1 w.heap.size #[.bool b, .slice A n c, .slice D m e] := by rw [hw1]; exact Bx.new _ _ _
    have o1 : Old w w1 := by rw [hw1]; exact oldA
    have K1 := K.old o1
    have h1 := h.below o1 (Nat.le_refl _)
    have k1 := k.below o1 (Nat.le_refl _)
    go_upto_region 1 with fail
    rw [← hw1]
    clear hw1
    obtain ⟨gb, hgd⟩ : ∃ gb, gb = w.heap.size := ⟨_, rfl⟩
    rw [← hgd] at B1
    have HQ0 : Hid (w1.cell? ⟨gb, 0, none⟩ = some (.bool b)) := Lib.hid (B1.cell 0 rfl)
    have HQ1 : Hid (w1.cell? ⟨gb, 1, none⟩ = some (.slice A n c)) := Lib.hid (B1.cell 1 rfl)
    have HQ2 : Hid (w1.cell? ⟨gb, 2, none⟩ = some (.slice D m e)) := Lib.hid (B1.cell 2 rfl)
    have hg : gb < w1.heap.size := B1.lt
    have q0 := HQ0.out
    have q1 := HQ1.out
    have q2 := HQ2.out
    rw [← hgd]
    clear B1 hgd
    have hml := Lib.hid (okP_len HO.out.2.1).1
    have k1' : NatS w1 u D e (natX m g) := by have := k1.congr (fun j hj => (okP_len HO.out.2.1).2 j hj); unfold NatS; rw [← hml.out]; exact this
    go_wp2_with fail
    have hone := isOne_any D e (natX m g) u w1 k1'
    rw [← hml.out] at hone
    refine hone.mono ?_
    rintro e' w2 ⟨rfl, o2⟩
    rw [HN.out]
    replace HQ0 : Hid (w2.cell? ⟨gb, 0, none⟩ = some (.bool b)) := Lib.hid ((o2.cell (p := ⟨gb, 0, none⟩) hg).trans HQ0.out)
    replace HQ1 : Hid (w2.cell? ⟨gb, 1, none⟩ = some (.slice A n c)) := Lib.hid ((o2.cell (p := ⟨gb, 1, none⟩) hg).trans HQ1.out)
    replace HQ2 : Hid (w2.cell? ⟨gb, 2, none⟩ = some (.slice D m e)) := Lib.hid ((o2.cell (p := ⟨gb, 2, none⟩) hg).trans HQ2.out)
    clear q0 q1 q2
    have q0 := HQ0.out
    have q1 := HQ1.out
    have q2 := HQ2.out
    replace hg : gb < w2.heap.size := Nat.lt_of_lt_of_le hg o2.size
    have h2 := h1.below o2 (Nat.le_refl _)
    have k2 := k1.below o2 (Nat.le_refl _)
    have K2 := K1.old o2
    go_wp2_with fail
    refine (formatBig_any b A n c lo f _ h2 HO.out.1.1 K2).mono ?_
    rintro e' w3 ⟨rfl, o3⟩
    go_wp2
    go_ret
    exact ⟨congrArg (fun s => Ending.returned (.string s)) (HR.out).symm, Old.trans o1 (Old.trans o2 o3)⟩
  · have HN : Hid (decide (natX m g = 1) = false) := Lib.hid (decide_eq_false h1n)
    have HR : Hid (ratT b n f m g = bigT b n f ++ ⟨#[47]⟩ ++ rFormatNat m g) := Lib.hid (by unfold ratT; rw [if_neg h1n])
    clear h1n
    go_enter Tryz.func29, Tryz.ntmps29
    obtain ⟨w1, hw1⟩ : ∃ w1, w1 = w.alloc (.cells #[.bool b, .slice A n c, .slice D m e] 26) := ⟨_, rfl⟩
    have B1 : Bx w1 w.heap.size #[.bool b, .slice A n c, .slice D m e] := by rw [hw1]; exact Bx.new _ _ _
    have o1 : Old w w1 := by rw [hw1]; exact oldA
    have K1 := K.old o1
    have h1 := h.below o1 (Nat.le_refl _)
    have k1 := k.below o1 (Nat.le_refl _)
    go_upto_region 1 with fail
    rw [← hw1]
    clear hw1
    obtain ⟨gb, hgd⟩ : ∃ gb, gb = w.heap.size := ⟨_, rfl⟩
    rw [← hgd] at B1
    have HQ0 : Hid (w1.cell? ⟨gb, 0, none⟩ = some (.bool b)) := Lib.hid (B1.cell 0 rfl)
    have HQ1 : Hid (w1.cell? ⟨gb, 1, none⟩ = some (.slice A n c)) := Lib.hid (B1.cell 1 rfl)
    have HQ2 : Hid (w1.cell? ⟨gb, 2, none⟩ = some (.slice D m e)) := Lib.hid (B1.cell 2 rfl)
    have hg : gb < w1.heap.size := B1.lt
    have q0 := HQ0.out
    have q1 := HQ1.out
    have q2 := HQ2.out
    rw [← hgd]
    clear B1 hgd
    have hml := Lib.hid (okP_len HO.out.2.1).1
    have k1' : NatS w1 u D e (natX m g) := by have := k1.congr (fun j hj => (okP_len HO.out.2.1).2 j hj); unfold NatS; rw [← hml.out]; exact this
    go_wp2_with fail
    have hone := isOne_any D e (natX m g) u w1 k1'
    rw [← hml.out] at hone
    refine hone.mono ?_
    rintro e' w2 ⟨rfl, o2⟩
    rw [HN.out]
    replace HQ0 : Hid (w2.cell? ⟨gb, 0, none⟩ = some (.bool b)) := Lib.hid ((o2.cell (p := ⟨gb, 0, none⟩) hg).trans HQ0.out)
    replace HQ1 : Hid (w2.cell? ⟨gb, 1, none⟩ = some (.slice A n c)) := Lib.hid ((o2.cell (p := ⟨gb, 1, none⟩) hg).trans HQ1.out)
    replace HQ2 : Hid (w2.cell? ⟨gb, 2, none⟩ = some (.slice D m e)) := Lib.hid ((o2.cell (p := ⟨gb, 2, none⟩) hg).trans HQ2.out)
    clear q0 q1 q2
    have q0 := HQ0.out
    have q1 := HQ1.out
    have q2 := HQ2.out
    replace hg : gb < w2.heap.size := Nat.lt_of_lt_of_le hg o2.size
    have h2 := h1.below o2 (Nat.le_refl _)
    have k2 := k1.below o2 (Nat.le_refl _)
    have K2 := K1.old o2
    have sb := bigT_size b n f
    have sn := rFormatNat_size m g
    have sc := slash_size (bigT b n f) sb
    have sn1 : ¬ 9223372036854775807 < (bigT b n f).size + 1 := by omega
    have sn2 : ¬ 9223372036854775807 < (bigT b n f ++ ⟨#[47]⟩).size + (rFormatNat m g).size := by omega
    have sn3 : ¬ 9223372036854775807 < (bigT b n f).size + 1 + (rFormatNat m g).size := by omega
    have O := Old.refl w2
    go_upto_region 3 with fail
    go_cut [2] (fun sl wx => sl = .string (bigT b n f ++ ⟨#[47]⟩ ++ rFormatNat m g) ∧ Old w2 wx)
    case first =>
      go_region_held3 (fun w' => w'.cell? ⟨gb, 0, none⟩ = some (.bool b) ∧ w'.cell? ⟨gb, 1, none⟩ = some (.slice A n c) ∧ w'.cell? ⟨gb, 2, none⟩ = some (.slice D m e)) (go_keep)
        (first
        | (go_at_call 63; refine (formatBig_any _ _ _ _ lo _ _ (h2.below (B := w2.heap.size) (Below.trans (b := _) O oldA) (Nat.le_refl _)) HO.out.1.1 (K2.old (Below.trans (b := _) O oldA))).mono ?_; rintro e' wx ⟨rfl, ox⟩; have zO := O.size; replace O : Old w2 wx := Below.trans (b := _) (Below.trans (b := _) O oldA) (Below.mono ox leA); have q0 := (O.cell (p := ⟨gb, 0, none⟩) hg).trans HQ0.out; have q1 := (O.cell (p := ⟨gb, 1, none⟩) hg).trans HQ1.out; have q2 := (O.cell (p := ⟨gb, 2, none⟩) hg).trans HQ2.out; have zx := O.size)
        | (go_at_call 64; refine (formatNat_any _ _ _ u _ _ (k2.below (B := w2.heap.size) (Below.trans (b := _) O oldA) (Nat.le_refl _)) HO.out.2.1 (K2.old (Below.trans (b := _) O oldA))).mono ?_; rintro e' wx ⟨rfl, ox⟩; have zO := O.size; replace O : Old w2 wx := Below.trans (b := _) (Below.trans (b := _) O oldA) (Below.mono ox leA); have q0 := (O.cell (p := ⟨gb, 0, none⟩) hg).trans HQ0.out; have q1 := (O.cell (p := ⟨gb, 1, none⟩) hg).trans HQ1.out; have q2 := (O.cell (p := ⟨gb, 2, none⟩) hg).trans HQ2.out; have zx := O.size)
        | fail)
      all_goals (go_wp2_with fail; go_meet; exact ⟨rfl, Below.trans (b := _) O oldA⟩)
    case rest =>
    obtain ⟨rfl, o6⟩ := hcut
    go_wp2
    go_ret
    exact ⟨congrArg (fun s => Ending.returned (.string s)) (HR.out).symm, Old.trans o1 (Old.trans o2 o6)⟩
set_option maxRecDepth 100000 in
set_option maxHeartbeats 8000000 in
theorem impl_FormatRat (b : Bool) (A : Option Addr) (n c lo : Nat) (f : Nat → Int) (D : Option Addr) (m e u : Nat) (g : Nat → Int) (w : World) (h : Row w lo A n c f) (k : Row w u D m e g) (hn : n ≤ 1048576) (hm : m ≤ 1048576) (K : KT w) :
    Calls Tryz.prog 11 #[.agg #[.bool b, .slice A n c, .slice D m e]] w fun e' w' => e' = .returned (.string (rFormatRat b n f m g)) ∧ Old w w' := by
  by_cases hok : okR b n f m g
  · have HK := Lib.hid (rRatOk_yes hok)
    rw [show rFormatRat b n f m g = ratT b n f m g by unfold rFormatRat; rw [if_pos hok]]
    have HO := Lib.hid hok
    clear hok
    go_enter Tryz.func11, Tryz.ntmps11
    go_wp2_with fail
    refine (impl_RatOk b A n c lo f D m e u g _ (h.below (B := w.heap.size) oldA (Nat.le_refl _)) (k.below (B := w.heap.size) oldA (Nat.le_refl _)) hn hm).mono ?_
    rintro e' w1 ⟨rfl, o1⟩
    rw [HK.out]
    have B1 := Bx.old (Bx.new _ _ _) o1
    replace o1 : Old w w1 := Below.trans (b := _) oldA (Below.mono o1 leA)
    have h1 := h.below o1 (Nat.le_refl _)
    have k1 := k.below o1 (Nat.le_refl _)
    have q0 : w1.cell? ⟨w.heap.size, 0, none⟩ = some (.bool b) := B1.cell 0 rfl
    have q1 : w1.cell? ⟨w.heap.size, 1, none⟩ = some (.slice A n c) := B1.cell 1 rfl
    have q2 : w1.cell? ⟨w.heap.size, 2, none⟩ = some (.slice D m e) := B1.cell 2 rfl
    have qg := B1.lt
    clear B1
    go_wp2_with fail
    refine (formatRat_any b A n c lo f D m e u g _ h1 k1 HO.out (K.old o1)).mono ?_
    rintro e' w2 ⟨rfl, o2⟩
    go_wp2
    go_ret
    exact ⟨rfl, Old.trans o1 o2⟩
  · have HK := Lib.hid (rRatOk_no hok)
    rw [show rFormatRat b n f m g = ByteArray.empty by unfold rFormatRat; rw [if_neg hok]]
    clear hok
    go_enter Tryz.func11, Tryz.ntmps11
    go_wp2_with fail
    refine (impl_RatOk b A n c lo f D m e u g _ (h.below (B := w.heap.size) oldA (Nat.le_refl _)) (k.below (B := w.heap.size) oldA (Nat.le_refl _)) hn hm).mono ?_
    rintro e' w1 ⟨rfl, o1⟩
    rw [HK.out]
    have B1 := Bx.old (Bx.new _ _ _) o1
    replace o1 : Old w w1 := Below.trans (b := _) oldA (Below.mono o1 leA)
    have h1 := h.below o1 (Nat.le_refl _)
    have k1 := k.below o1 (Nat.le_refl _)
    go_wp2
    go_ret
    exact ⟨rfl, o1⟩
end Go.Proofs.YtgchbbjhdeobpaaGreatDoor

namespace Go.Proofs.YtgchbbjhdeobpaaGreatDoor
set_option linter.unusedVariables false
open Go.RowKit Num

/-- The value of digits, behind what has been read. -/
def vF (a : Nat) (l : List UInt8) : Nat := l.foldl (fun a c => a * 10 + (c.toNat - 48)) a
theorem vF_nil (a : Nat) : vF a [] = a := by unfold vF; rw [List.foldl_nil]
theorem vF_cons (a : Nat) (c : UInt8) (l : List UInt8) : vF a (c :: l) = vF (a * 10 + (c.toNat - 48)) l := by unfold vF; rw [List.foldl_cons]
attribute [irreducible] vF
theorem vF_app (l m : List UInt8) : ∀ a, vF a (l ++ m) = vF (vF a l) m := by
  induction l with
  | nil => intro a; rw [vF_nil]; rfl
  | cons c l ih => intro a; rw [List.cons_append, vF_cons, vF_cons, ih]
theorem vF_base (l : List UInt8) : ∀ a, vF a l = a * 10 ^ l.length + vF 0 l := by
  induction l with
  | nil => intro a; rw [vF_nil, vF_nil]; simp
  | cons c l ih =>
    intro a
    rw [vF_cons, vF_cons, ih, ih (0 * 10 + (c.toNat - 48)), List.length_cons, Nat.pow_succ, Nat.add_mul, Nat.zero_mul, Nat.zero_add]
    have e : a * 10 * 10 ^ l.length = a * (10 ^ l.length * 10) := by rw [Nat.mul_assoc, Nat.mul_comm 10]
    omega
theorem vF_dec (k : Nat) : ∀ u, u < k → vF 0 (Lib.decDigits u) = u := by
  induction k with
  | zero => intro u h; omega
  | succ k ih =>
    intro u hk
    by_cases h : u < 10
    · rw [Lib.decDigits_one h, vF_cons, vF_nil, digit_toNat h]
      omega
    · rw [dec_big h, vF_app, ih (u / 10) (by omega), vF_cons, vF_nil, digit_toNat (by omega)]
      omega
theorem vF_zeros (l : List UInt8) : ∀ k, vF 0 (List.replicate k 48 ++ l) = vF 0 l
  | 0 => rfl
  | k + 1 => by
    rw [List.replicate_succ, List.cons_append, vF_cons]
    exact vF_zeros l k
theorem dv_vF (l : List UInt8) : ∀ n, n ≤ l.length → dv (txt l) 0 n = vF 0 (l.take n)
  | 0, _ => by rw [List.take_zero, vF_nil]; rfl
  | n + 1, h => by
    have hn : n < (txt l).size := by rw [txt_size]; omega
    rw [dv, dv_vF l n (by omega), List.take_succ_eq_append_getElem (by omega), vF_app, vF_cons, vF_nil]
    unfold chr
    rw [Nat.zero_add, dif_pos hn, bAt_eq _ n hn]
    have e : bAt (txt l) n = l[n] := by
      unfold bAt
      rw [txt_data, List.getD_eq_getElem?_getD, List.getElem?_eq_getElem (by omega)]
      rfl
    rw [e]
    omega
theorem dv_all (s : ByteArray) : dv s 0 s.size = vF 0 s.data.toList := by
  have e1 : s.size = s.data.toList.length := rfl
  have h := dv_vF s.data.toList s.data.toList.length (Nat.le_refl _)
  rw [txt_of, List.take_length] at h
  rw [e1]
  exact h
def dgs (l : List UInt8) : Prop := ∀ c ∈ l, 48 ≤ c.toNat ∧ c.toNat ≤ 57
theorem dgs_app {l m : List UInt8} (h1 : dgs l) (h2 : dgs m) : dgs (l ++ m) := fun c hc => by
  rcases List.mem_append.1 hc with h | h
  · exact h1 c h
  · exact h2 c h
theorem dgs_inR {s : ByteArray} (h : dgs s.data.toList) : inR s 48 57 := fun k hk => by
  have hm : s[k] ∈ s.data.toList := by rw [bAt_eq s k hk]; unfold bAt; rw [List.getD_eq_getElem?_getD, List.getElem?_eq_getElem (by exact hk)]; exact List.getElem_mem _
  have := h _ hm
  omega
theorem dec_len {u : Nat} (h : u ≤ 999999999) : (Lib.decDigits u).length ≤ 9 := by
  have h1 : ∀ (k : Nat) (u : Nat), u < 10 ^ (k + 1) → Lib.nDigits u ≤ k + 1 := by
    intro k
    induction k with
    | zero => intro u hu; rw [Lib.nDigits_small (by omega)]; omega
    | succ k ih =>
      intro u hu
      by_cases hs : u < 10
      · rw [Lib.nDigits_small hs]; omega
      · rw [Lib.nDigits_big hs]
        have := ih (u / 10) (by rw [Nat.pow_succ] at hu; omega)
        omega
  rw [Lib.decDigits_length]
  exact h1 8 u (by omega)
theorem fi_data (u : Nat) : (rFormatInt (u : Int)).data.toList = Lib.decDigits u := by
  rw [rFormatInt_data]
  unfold Lib.itoa
  rw [if_neg (by omega)]
  rfl
theorem pad_data {u : Nat} (h : u ≤ 999999999) : ∃ k, (rPadZeros (rFormatInt (u : Int)) 9).data.toList = List.replicate k 48 ++ Lib.decDigits u ∧ k + (Lib.decDigits u).length = 9 := by
  have hl := dec_len h
  have hs : (rFormatInt (u : Int)).size = (Lib.decDigits u).length := by
    have e : (rFormatInt (u : Int)).size = (rFormatInt (u : Int)).data.toList.length := rfl
    rw [e, fi_data]
  refine ⟨9 - (Lib.decDigits u).length, ?_, by omega⟩
  unfold rPadZeros
  rw [if_pos (by omega), hs, show ((9 : Int) - ((Lib.decDigits u).length : Int)).toNat = 9 - (Lib.decDigits u).length by omega]
  unfold padB
  rw [fi_data]
theorem dec_head {u : Nat} (h : 0 < u) : ∃ c r, Lib.decDigits u = c :: r ∧ ¬ c.toNat = 48 := by
  have : ∀ k u, u < k → 0 < u → ∃ c r, Lib.decDigits u = c :: r ∧ ¬ c.toNat = 48 := by
    intro k
    induction k with
    | zero => intro u h; omega
    | succ k ih =>
      intro u hk hu
      by_cases h : u < 10
      · refine ⟨_, [], Lib.decDigits_one h, ?_⟩
        rw [digit_toNat h]
        omega
      · obtain ⟨c, r, e, hc⟩ := ih (u / 10) (by omega) (by omega)
        exact ⟨c, r ++ [UInt8.ofNat (48 + u % 10)], by rw [dec_big h, e]; rfl, hc⟩
  exact this (u + 1) u (by omega) h
theorem fT_facts {x n : Nat} (hn : n = len x) (h0 : 0 < x) : ∀ k, k + 1 ≤ n → (∃ c r, (fT (digI x) n (k + 1)).data.toList = c :: r ∧ ¬ c.toNat = 48) ∧ dgs (fT (digI x) n (k + 1)).data.toList ∧ (fT (digI x) n (k + 1)).size ≤ 9 * (k + 1) ∧ vF 0 (fT (digI x) n (k + 1)).data.toList = x / B ^ (n - (k + 1))
  | 0, h => by
    have ht := top_pos (n := x) (by omega)
    rw [← hn] at ht
    have hle := dig_le x (n - 1)
    have e : fT (digI x) n (0 + 1) = rFormatInt ((dig x (n - 1) : Nat) : Int) := fT_one (digI x) n
    have hd := fi_data (dig x (n - 1))
    rw [e, hd]
    refine ⟨dec_head (by omega), dec_digits (dig x (n - 1) + 1) _ (by omega), ?_, ?_⟩
    · have hl := dec_len hle
      have e2 : (rFormatInt ((dig x (n - 1) : Nat) : Int)).size = (rFormatInt ((dig x (n - 1) : Nat) : Int)).data.toList.length := rfl
      rw [e2, hd]
      omega
    · rw [vF_dec (dig x (n - 1) + 1) _ (by omega), div_pow_succ x (n - (0 + 1)), show n - (0 + 1) + 1 = n by omega, Nat.div_eq_of_lt (by rw [hn]; exact lt_len x), Nat.mul_zero, Nat.zero_add, show n - (0 + 1) = n - 1 by omega]
  | k + 1, h => by
    obtain ⟨⟨c, r, e1, hc⟩, h2, h3, h4⟩ := fT_facts hn h0 k (by omega)
    have hst : fT (digI x) n (k + 1 + 1) = fT (digI x) n (k + 1) ++ rPadZeros (rFormatInt ((dig x (n - (k + 1) - 1) : Nat) : Int)) 9 := fT_step (digI x) (m := n - (k + 1) - 1) (by omega) (by omega)
    have hle := dig_le x (n - (k + 1) - 1)
    obtain ⟨z, hp, hz⟩ := pad_data hle
    rw [hst, ByteArray.data_append, Array.toList_append, hp]
    refine ⟨⟨c, _, by rw [e1]; rfl, hc⟩, dgs_app h2 (dgs_app (fun a ha => ?_) (dec_digits (dig x (n - (k + 1) - 1) + 1) _ (by omega))), ?_, ?_⟩
    · rw [List.eq_of_mem_replicate ha]
      decide
    · rw [ByteArray.size_append]
      have e2 : (rPadZeros (rFormatInt ((dig x (n - (k + 1) - 1) : Nat) : Int)) 9).size = (rPadZeros (rFormatInt ((dig x (n - (k + 1) - 1) : Nat) : Int)) 9).data.toList.length := rfl
      rw [e2, hp, List.length_append, List.length_replicate]
      omega
    · rw [vF_app, vF_base, h4, vF_zeros, vF_dec (dig x (n - (k + 1) - 1) + 1) _ (by omega), List.length_append, List.length_replicate, hz, div_pow_succ x (n - (k + 1 + 1)), show n - (k + 1 + 1) + 1 = n - (k + 1) by omega, show n - (k + 1) - 1 = n - (k + 1 + 1) by omega, Nat.mul_comm]
      rw [B_eq]
theorem okN_of {s : ByteArray} (h1 : dgs s.data.toList) (h0 : 0 < s.size) (h2 : s.size ≤ 540) (h3 : ¬ (1 < s.size ∧ c0 s = 48)) : okN s := by
  refine ⟨?_, h2, h3⟩
  unfold rIsDigits
  rw [inB_yes (dgs_inR h1), Bool.and_true]
  exact decide_eq_true (by omega)
/-- THE LAW: the text of a natural number reads back as the number. -/
theorem parse_format {x : Nat} (h : len x ≤ 60) : rParseNat (rFormatNat (len x) (digI x)) = x ∧ rParseNat1 (rFormatNat (len x) (digI x)) = true := by
  have hok := okP_of h
  by_cases h0 : x = 0
  · subst h0
    have e : rFormatNat (len 0) (digI 0) = ⟨#[48]⟩ := by unfold rFormatNat; rw [if_pos hok, if_pos len_zero]
    have e1 : (⟨#[48]⟩ : ByteArray).size = 1 := rfl
    rw [e]
    have k := okN_of (s := ⟨#[48]⟩) (fun c hc => by simp at hc; rw [hc]; decide) (by omega) (by omega) (by omega)
    refine ⟨?_, (rParse_yes k).2⟩
    rw [(rParse_yes k).1, dv_all]
    show vF 0 [48] = 0
    rw [vF_cons, vF_nil]
    rfl
  · have hn : ¬ len x = 0 := fun e => h0 (len_eq_zero.1 e)
    have e : rFormatNat (len x) (digI x) = fT (digI x) (len x) (len x) := by unfold rFormatNat; rw [if_pos hok, if_neg hn]
    obtain ⟨⟨c, r, e1, hc⟩, h2, h3, h4⟩ := fT_facts (n := len x) rfl (by omega) (len x - 1) (by omega)
    rw [show len x - 1 + 1 = len x by omega] at e1 h2 h3 h4
    have es : (fT (digI x) (len x) (len x)).size = (fT (digI x) (len x) (len x)).data.toList.length := rfl
    have hpos : 0 < (fT (digI x) (len x) (len x)).size := by rw [es, e1]; simp
    have k := okN_of h2 hpos (by omega) (fun hh => by
      have hcc : c0 (fT (digI x) (len x) (len x)) = c.toNat := by
        unfold c0
        rw [dif_pos hpos, bAt_eq _ 0 hpos, bAt_cons e1]
      exact hc (by rw [← hcc]; exact hh.2))
    rw [e]
    refine ⟨?_, (rParse_yes k).2⟩
    rw [(rParse_yes k).1, dv_all, h4]
    simp
end Go.Proofs.YtgchbbjhdeobpaaGreatDoor

namespace Go.Proofs.YtgchbbjhdeobpaaGreatDoor
set_option linter.unusedVariables false
open Go.RowKit Num

/-- The texts of a natural number, of a big integer. -/
noncomputable def txN (x : Nat) : ByteArray := rFormatNat (len x) (digI x)
noncomputable def txZ (z : Int) : ByteArray := bigT (sgnZ z) (len (magZ z)) (digI (magZ z))
theorem txN_ok {x : Nat} (h : len x ≤ 60) : okN (txN x) ∧ rParseNat (txN x) = x := by
  have hp := parse_format h
  refine ⟨?_, hp.1⟩
  by_cases k : okN (txN x)
  · exact k
  · have h2 := (rParse_no k).2
    unfold txN at h2
    rw [hp.2] at h2
    cases h2
theorem inR_mem {s : ByteArray} (h : inR s 48 57) {c : UInt8} (hc : c ∈ s.data.toList) : 48 ≤ c.toNat ∧ c.toNat ≤ 57 := by
  obtain ⟨k, hk, e⟩ := List.mem_iff_getElem.1 hc
  have hs : k < s.size := hk
  have hh := h k hs
  have e2 : s[k] = c := e
  rw [e2] at hh
  omega
theorem txN_mem {x : Nat} (h : len x ≤ 60) {c : UInt8} (hc : c ∈ (txN x).data.toList) : 48 ≤ c.toNat ∧ c.toNat ≤ 57 := inR_mem (okN_in (txN_ok h).1).1 hc
theorem txZ_neg {z : Int} (h : z < 0) : (txZ z).data.toList = 45 :: (txN (magZ z)).data.toList := by
  unfold txZ bigT sgnZ
  rw [if_pos (decide_eq_true h), ByteArray.data_append, Array.toList_append]
  rfl
theorem txZ_pos {z : Int} (h : ¬ z < 0) : txZ z = txN (magZ z) := by
  unfold txZ bigT sgnZ
  rw [if_neg (by simpa using h)]
  rfl
theorem txZ_mem {z : Int} (h : len (magZ z) ≤ 60) {c : UInt8} (hc : c ∈ (txZ z).data.toList) : c.toNat = 45 ∨ (48 ≤ c.toNat ∧ c.toNat ≤ 57) := by
  by_cases hz : z < 0
  · rw [txZ_neg hz] at hc
    rcases List.mem_cons.1 hc with hc | hc
    · exact .inl (by rw [hc]; rfl)
    · exact .inr (txN_mem h hc)
  · rw [txZ_pos hz] at hc
    exact .inr (txN_mem h hc)
/-- THE LAW: a big integer's text reads back. -/
theorem parse_big {z : Int} (h : len (magZ z) ≤ 60) : zParseBigInt (txZ z) = z ∧ rParseBigInt1 (txZ z) = true := by
  have hN := txN_ok h
  have hin := okN_in hN.1
  by_cases hz : z < 0
  · have hd := txZ_neg hz
    have hsz : 0 < (txZ z).size := by
      have e : (txZ z).size = (txZ z).data.toList.length := rfl
      rw [e, hd]
      simp
    have hneg : negS (txZ z) = true := by
      rw [neg_at hsz, bAt_eq _ 0 hsz, bAt_cons hd]
      rfl
    have ht : tS (txZ z) = txN (magZ z) := by rw [tS_neg hneg, ext1 hd, txt_of]
    have k : okZ (txZ z) := by
      unfold okZ
      rw [ht, hN.2]
      exact ⟨hN.1, fun _ => by unfold magZ; omega⟩
    refine ⟨?_, (zParse_yes k).2⟩
    rw [(zParse_yes k).1, hneg, ht, hN.2]
    unfold signed magZ
    rw [if_pos rfl]
    omega
  · have he := txZ_pos hz
    have hneg : negS (txZ z) = false := by
      rw [he, neg_at hin.2]
      have := hin.1 0 hin.2
      exact decide_eq_false (by omega)
    have ht : tS (txZ z) = txN (magZ z) := by rw [tS_pos hneg, he]
    have k : okZ (txZ z) := by
      unfold okZ
      rw [ht, hneg]
      exact ⟨hN.1, fun hh => by cases hh⟩
    refine ⟨?_, (zParse_yes k).2⟩
    rw [(zParse_yes k).1, hneg, ht, hN.2]
    unfold signed magZ
    rw [if_neg (by decide)]
    omega
theorem txZ_nocut {z : Int} (hz : len (magZ z) ≤ 60) : Lib.indexByte (txZ z).data.toList 47 = -1 := by
  rcases (by have := Lib.indexByte_ge (txZ z).data.toList 47; omega : Lib.indexByte (txZ z).data.toList 47 = -1 ∨ 0 ≤ Lib.indexByte (txZ z).data.toList 47) with h | h
  · exact h
  · obtain ⟨i, hi⟩ : ∃ i : Nat, Lib.indexByte (txZ z).data.toList 47 = (i : Int) := ⟨(Lib.indexByte (txZ z).data.toList 47).toNat, by omega⟩
    have hs := Lib.indexByte_some hi
    obtain ⟨hl, e⟩ := List.getElem?_eq_some_iff.1 hs.1
    have := txZ_mem hz (e ▸ List.getElem_mem hl)
    have e47 : (47 : UInt8).toNat = 47 := rfl
    omega
theorem txZ_inj {z z' : Int} (h : len (magZ z) ≤ 60) (h' : len (magZ z') ≤ 60) (e : txZ z = txZ z') : z = z' := by
  rw [← (parse_big h).1, e, (parse_big h').1]
theorem txN_inj {x x' : Nat} (h : len x ≤ 60) (h' : len x' ≤ 60) (e : txN x = txN x') : x = x' := by
  rw [← (txN_ok h).2, e, (txN_ok h').2]
end Go.Proofs.YtgchbbjhdeobpaaGreatDoor

namespace Go.Proofs.YtgchbbjhdeobpaaGreatDoor
set_option linter.unusedVariables false
open Go.RowKit Num
/-- The text of a fraction. -/
noncomputable def txQ (z : Int) (d : Nat) : ByteArray := ratT (sgnZ z) (len (magZ z)) (digI (magZ z)) (len d) (digI d)
theorem txQ_one {z : Int} : txQ z 1 = txZ z := by
  unfold txQ ratT txZ
  rw [if_pos (natX_digI (by have : len 1 ≤ 1 := len_le_iff.2 (by rw [Nat.pow_one, B_eq]; omega); omega))]
theorem txQ_cut {z : Int} {d : Nat} (hz : len (magZ z) ≤ 60) (hd : len d ≤ 60) (h1 : ¬ d = 1) : Cut2 (txQ z d) 47 (txZ z) (txN d) := by
  have e : txQ z d = txZ z ++ ⟨#[47]⟩ ++ txN d := by
    unfold txQ ratT
    rw [if_neg (by rw [natX_digI hd]; exact h1)]
    rfl
  have e47 : (47 : UInt8).toNat = 47 := rfl
  refine ⟨?_, fun hc => ?_, fun hc => ?_⟩
  · rw [e, ByteArray.data_append, ByteArray.data_append, Array.toList_append, Array.toList_append]
    simp
  · have := txZ_mem hz hc
    omega
  · have := txN_mem hd hc
    omega
end Go.Proofs.YtgchbbjhdeobpaaGreatDoor

namespace Go.Proofs.YtgchbbjhdeobpaaGreatDoor
set_option linter.unusedVariables false
open Go.RowKit Num
/-- A text that is a valid fraction's. -/
def okQ (s : ByteArray) : Prop := ∃ (z : Int) (d : Nat), normF (z, d) ∧ 0 < d ∧ txQ z d = s
open Classical in
noncomputable def vParseRat (s : ByteArray) : Fr := if h : okQ s then (h.choose, h.choose_spec.choose) else (0, 0)
open Classical in
noncomputable def rParseRat1 (s : ByteArray) : Bool := decide (okQ s)
theorem txQ_inj {z z' : Int} {d d' : Nat} (n1 : normF (z, d)) (n2 : normF (z', d')) (h : txQ z d = txQ z' d') : z = z' ∧ d = d' := by
  have l1 := norm_len n1
  have l2 := norm_len n2
  simp only at l1 l2
  by_cases e1 : d = 1
  · subst e1
    by_cases e2 : d' = 1
    · subst e2
      rw [txQ_one, txQ_one] at h
      exact ⟨txZ_inj (by omega) (by omega) h, rfl⟩
    · have hc := txQ_cut (z := z') (d := d') (by omega) (by omega) e2
      rw [← h, txQ_one] at hc
      have := hc.index
      rw [txZ_nocut (by omega)] at this
      omega
  · have hc := txQ_cut (z := z) (d := d) (by omega) (by omega) e1
    by_cases e2 : d' = 1
    · subst e2
      rw [h, txQ_one] at hc
      have := hc.index
      rw [txZ_nocut (by omega)] at this
      omega
    · have hc2 := txQ_cut (z := z') (d := d') (by omega) (by omega) e2
      rw [h] at hc
      have a := hc.split
      rw [hc2.split] at a
      injection a with a1 a2
      injection a2 with a2 _
      exact ⟨(txZ_inj (by omega) (by omega) a1).symm, (txN_inj (by omega) (by omega) a2).symm⟩
open Classical in
theorem pq_is {s : ByteArray} {z : Int} {d : Nat} (n1 : normF (z, d)) (p1 : 0 < d) (h : txQ z d = s) : vParseRat s = (z, d) ∧ rParseRat1 s = true := by
  have k : okQ s := ⟨z, d, n1, p1, h⟩
  have hs := k.choose_spec.choose_spec
  have e := txQ_inj hs.1 n1 (hs.2.2.trans h.symm)
  refine ⟨?_, decide_eq_true k⟩
  have e2 : vParseRat s = (k.choose, k.choose_spec.choose) := dif_pos k
  rw [e2]
  exact Prod.ext e.1 e.2
open Classical in
theorem pq_not {s : ByteArray} (h : ¬ okQ s) : vParseRat s = (0, 0) ∧ rParseRat1 s = false :=
  ⟨by unfold vParseRat; rw [dif_neg h], decide_eq_false h⟩
/-- FormatRat of what was read: empty, or a text of a valid fraction. -/
theorem fmt_val {z : Int} {d : Nat} (n1 : normF (z, d)) (p1 : 0 < d) : rFormatRat (sgnZ z) (len (magZ z)) (digI (magZ z)) (len d) (digI d) = txQ z d := if_pos ((okR_val n1).2 p1)
theorem val_of_okR {z : Int} {d : Nat} (hz : len (magZ z) ≤ 60) (hd : len d ≤ 60) (k : okR (sgnZ z) (len (magZ z)) (digI (magZ z)) (len d) (digI d)) : normF (z, d) ∧ 0 < d := by
  obtain ⟨k1, k2, k3, k4, k5, k6⟩ := k
  rw [natX_digI hz, natX_digI hd] at k6
  have p := pos_len k3
  exact ⟨.inr ⟨p, k4, k5, k6⟩, p⟩
end Go.Proofs.YtgchbbjhdeobpaaGreatDoor
