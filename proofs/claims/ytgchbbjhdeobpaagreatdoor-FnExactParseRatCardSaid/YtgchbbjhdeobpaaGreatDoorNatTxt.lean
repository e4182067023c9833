import Derived.Test.YtgchbbjhdeobpaaGreatDoorInt
import Derived.Test.YtgchbbjhdeobpaaGreatDoorPad
import Derived.Test.YtgchbbjhdeobpaaGreatDoorNatA
import Derived.Test.YtgchbbjhdeobpaaGreatDoorBoxes
import Derived.Lib.AppendStr
import Derived.Lib.UnsafeStr
/-
  Natural numbers as texts: both FormatNat's; a strings.Builder that is written to.
-/
namespace Go.Proofs.YtgchbbjhdeobpaaGreatDoor
set_option linter.unusedVariables false
open Go.RowKit

def pc (f : Nat → Int) (n k : Nat) : ByteArray := if k = 0 then rFormatInt (f (n - 1)) else rPadZeros (rFormatInt (f (n - 1 - k))) 9
/-- The text of the first k limbs from above. -/
def fT (f : Nat → Int) (n : Nat) : Nat → ByteArray
  | 0 => ByteArray.empty
  | k + 1 => fT f n k ++ pc f n k
theorem fT_one (f : Nat → Int) (n : Nat) : fT f n 1 = rFormatInt (f (n - 1)) := by
  show ByteArray.empty ++ pc f n 0 = _
  unfold pc
  simp
theorem fT_step (f : Nat → Int) {n m k : Nat} (h : m + 1 + k = n) (hk : 0 < k) : fT f n (k + 1) = fT f n k ++ rPadZeros (rFormatInt (f m)) 9 := by
  rw [fT]
  unfold pc
  rw [if_neg (by omega), show n - 1 - k = m by omega]
theorem pad9_size (s : ByteArray) (h : s.size ≤ 21) : (rPadZeros s 9).size ≤ 30 := by
  unfold rPadZeros
  rw [if_pos (by omega), padB_size]
  omega
theorem fT_size (f : Nat → Int) (n : Nat) (hf : ∀ j, j < n → 0 ≤ f j ∧ f j ≤ 999999999) : ∀ k, k ≤ n → (fT f n k).size ≤ 30 * k
  | 0, _ => by simp [fT]
  | k + 1, hk => by
    have ih := fT_size f n hf k (by omega)
    have hp : (pc f n k).size ≤ 30 := by
      unfold pc
      split
      · have := hf (n - 1) (by omega)
        have := rFormatInt_size (f (n - 1)) (by omega) (by omega)
        omega
      · have := hf (n - 1 - k) (by omega)
        exact pad9_size _ (rFormatInt_size _ (by omega) (by omega))
    rw [fT, ByteArray.size_append]
    omega
open Classical in
noncomputable def rFormatNat (n : Nat) (f : Nat → Int) : ByteArray := if okP n f then (if n = 0 then ⟨#[48]⟩ else fT f n n) else ByteArray.empty
def szN : Value → Nat | .int _ i => (i + 1).toNat | _ => 0
set_option maxRecDepth 100000 in
set_option maxHeartbeats 1000000 in
theorem spec_FormatNat_yes (A : Option Addr) (n c : Nat) (f : Nat → Int) (lo : Nat) (w : World) (h : Row w lo A n c f) (hok : okP n f) (h0 : 0 < n) :
    Calls Tryz.prog 54 #[.slice A n c] w fun e w' => e = .returned (.string (fT f n n)) ∧ Old w w' := by
  have hn := hok.1
  have HG := Lib.hid hok.2.1
  have HS := Lib.hid (fT_size f n hok.2.1)
  have HK := Lib.hid (rNatOk_yes hok)
  clear hok
  go_enter Tryz.func54, Tryz.ntmps54
  go_wp2_with fail
  refine (spec_NatOk _ _ _ _ _ _ h (by omega)).mono ?_
  rintro e w1 ⟨rfl, o1⟩
  rw [HK.out]
  have h1 := h.below o1 (Nat.le_refl _)
  clear h
  obtain ⟨b, o, rfl, hbl, hbs, hfz, hc⟩ := h1.2 h0
  obtain ⟨p, hp⟩ : ∃ p : Nat, n = p + 1 := ⟨n - 1, by omega⟩
  subst hp
  have hx := hc p (by omega)
  have HC := Lib.hid hc
  clear hc hfz
  have e1 : ((p + 1 : Nat) : Int) - 1 = (p : Int) := by omega
  have hF : (fT f (p + 1) 1) = rFormatInt (f p) := fT_one f (p + 1)
  have HF := Lib.hid hF
  clear hF
  have hne : ((p : Int) + 1 == 0) = false := by simp; omega
  have gp := HG.out p (by omega)
  have GP := Lib.hid gp
  clear gp
  go_wp2_with fail
  refine (spec_FormatInt (f p) _ (by have := GP.out; omega)).mono ?_
  rintro e w2 ⟨rfl, o2⟩
  go_wp2
  go_loopw [3, 4] (fun s i wr => ∃ j k : Nat, j + k = p + 1 ∧ 0 < k ∧ i = .int .i64 ((j : Int) - 1) ∧ s = .string (fT f (p + 1) k) ∧ Old w2 wr) (fun _ i _ => szN i)
  case atStart => exact ⟨p, 1, rfl, by omega, congrArg (Value.int .i64) (by omega), by rw [HF.out], Old.refl _⟩
  case round =>
    obtain ⟨j, k, hj, hk, rfl, rfl, hb⟩ := hrel
    rcases j with _ | m
    · obtain rfl : k = p + 1 := by omega
      rw [show ((0 : Nat) : Int) - 1 = -1 by omega]
      go_wp2
      go_ret
      exact ⟨rfl, Old.trans o1 (Old.trans o2 hb)⟩
    · have hi : ((m + 1 : Nat) : Int) - 1 = (m : Int) := by omega
      rw [hi]
      have hR := (h1.below o2 (Nat.le_refl _)).below hb (Nat.le_refl _)
      obtain ⟨b', o', e', _, _, _, hc'⟩ := hR.2 (by omega)
      injection e' with e'
      injection e' with e1' e2'
      subst e1' e2'
      have hxm := hc' m (by omega)
      clear hc' hR
      have gm := HG.out m (by omega)
      have GM := Lib.hid gm
      clear gm
      have hsz := HS.out k (by omega)
      have hsz1 : (fT f (p + 1) k).size ≤ 1860 := by omega
      have hp9 := pad9_size (rFormatInt (f m)) (rFormatInt_size (f m) (by have := GM.out; omega) (by have := GM.out; omega))
      have hfi := rFormatInt_size (f m) (by have := GM.out; omega) (by have := GM.out; omega)
      have HST := Lib.hid (fT_step f (n := p + 1) (m := m) (k := k) (by omega) hk)
      clear hsz
      go_wp2_with fail
      refine (spec_FormatInt (f m) _ (by have := GM.out; omega)).mono ?_
      rintro e w3 ⟨rfl, o3⟩
      go_wp2_with fail
      refine (spec_PadZeros (rFormatInt (f m)) 9 _ (by unfold maxLen; omega) (by omega)).mono ?_
      rintro e w4 ⟨rfl, o4⟩
      go_wp2
      go_roundw
      case rel => exact ⟨m, k + 1, by omega, by omega, by go_num, by rw [HST.out], Old.trans hb (Old.trans o3 o4)⟩
      case measure => simp [szN]
set_option maxRecDepth 100000 in
set_option maxHeartbeats 1000000 in
theorem spec_FormatNat_no (A : Option Addr) (n c : Nat) (f : Nat → Int) (lo : Nat) (w : World) (h : Row w lo A n c f) (hok : ¬ okP n f) (hn : n ≤ 1048576) :
    Calls Tryz.prog 54 #[.slice A n c] w fun e w' => e = .returned (.string ByteArray.empty) ∧ Old w w' := by
  have HK := Lib.hid (rNatOk_no hok)
  clear hok
  go_enter Tryz.func54, Tryz.ntmps54
  go_wp2_with fail
  refine (spec_NatOk _ _ _ _ _ _ h hn).mono ?_
  rintro e w1 ⟨rfl, o1⟩
  rw [HK.out]
  go_wp2
  go_ret
  exact ⟨rfl, o1⟩
set_option maxRecDepth 100000 in
set_option maxHeartbeats 1000000 in
theorem spec_FormatNat_zero (A : Option Addr) (c : Nat) (f : Nat → Int) (lo : Nat) (w : World) (h : Row w lo A 0 c f) (hok : okP 0 f) :
    Calls Tryz.prog 54 #[.slice A 0 c] w fun e w' => e = .returned (.string ⟨#[48]⟩) ∧ Old w w' := by
  have HK := Lib.hid (rNatOk_yes hok)
  clear hok
  go_enter Tryz.func54, Tryz.ntmps54
  go_wp2_with fail
  refine (spec_NatOk _ _ _ _ _ _ h (by omega)).mono ?_
  rintro e w1 ⟨rfl, o1⟩
  rw [HK.out]
  go_wp2
  go_ret
  exact ⟨rfl, o1⟩
theorem spec_FormatNat (A : Option Addr) (n c lo : Nat) (f : Nat → Int) (w : World) (h : Row w lo A n c f) (hn : n ≤ 1048576) :
    Calls Tryz.prog 54 #[.slice A n c] w fun e w' => e = .returned (.string (rFormatNat n f)) ∧ Old w w' := by
  by_cases hok : okP n f
  · by_cases h0 : n = 0
    · subst h0
      rw [show rFormatNat 0 f = ⟨#[48]⟩ by unfold rFormatNat; rw [if_pos hok, if_pos rfl]]
      exact spec_FormatNat_zero A c f lo w h hok
    · rw [show rFormatNat n f = fT f n n by unfold rFormatNat; rw [if_pos hok, if_neg h0]]
      exact spec_FormatNat_yes A n c f lo w h hok (by omega)
  · rw [show rFormatNat n f = ByteArray.empty by unfold rFormatNat; rw [if_neg hok]]
    exact spec_FormatNat_no A n c f lo w h hok hn
/-! the builder -/
abbrev BT : TypeId := 86
abbrev BtAt (B b : Nat) (p : Value) (bs : List Value) (w : World) : Prop := Lib.BuilderAt 86 5 B b p bs w
abbrev BtIs (B b : Nat) (bs : List Value) (w : World) : Prop := Lib.IsBuilder 86 5 B b bs w
set_option maxRecDepth 100000 in
set_option maxHeartbeats 1000000 in
theorem copyCheck_used (b : Nat) (w : World) (h0 : w.cell? ⟨b, 0, none⟩ = some (.pointer (some ⟨b, 0, none⟩))) :
    Calls Tryz.prog 116 #[.pointer (some ⟨b, 0, none⟩)] w fun e w' => e = .returned (.tuple #[]) ∧ w' = w := by
  obtain ⟨j, hj, _⟩ := Option.map_eq_some_iff.1 Tryz.Builder_Extra_169.sizeBuilder
  go_enter Tryz.func116, Tryz.ntmps116
  go_wp2
  rw [Lib.run_neq_ptr_same w _ Tryz.underlying84 hj]
  go_wp2
  go_end0
  exact ⟨rfl, rfl⟩
set_option maxRecDepth 100000 in
set_option maxHeartbeats 1000000 in
theorem copyCheck_fresh (b : Nat) (w : World) (h0 : w.cell? ⟨b, 0, none⟩ = some (.pointer none)) (hsh : w.shape? b = some (86, 2)) (hfz : w.frozen? ⟨b, 0, none⟩ = false) :
    Calls Tryz.prog 116 #[.pointer (some ⟨b, 0, none⟩)] w fun e w' => e = .returned (.tuple #[]) ∧ w' = w.setCell ⟨b, 0, none⟩ (.pointer (some ⟨b, 0, none⟩)) := by
  obtain ⟨j, hj, hjs⟩ := Option.map_eq_some_iff.1 Tryz.Builder_Extra_169.sizeBuilder
  go_enter Tryz.func116, Tryz.ntmps116
  go_wp2
  rw [Lib.run_to_unsafe w ⟨b, 0, none⟩ Tryz.underlying84 Tryz.underlying114 hj (by rw [hjs]; decide) hsh (Nat.zero_lt_succ 1)]
  simp only [Result.andThen]
  rw [Oper.upon_value]
  go_wp2
  rw [run_callFunc_extern Tryz.func130 (by kernel_rfl) (by kernel_rfl) (by kernel_rfl) (e := Extern.AbiNoEscape.same) (by kernel_rfl)]
  rw [Lib.run_noEscape]
  simp only [Result.andThen]
  rw [Oper.upon_value]
  go_wp2
  rw [Lib.run_from_unsafe w ⟨b, 0, none⟩ Tryz.underlying114 Tryz.underlying84 hj hsh Tryz.Builder_Extra_169.liesBuilder]
  simp only [Result.andThen]
  rw [Oper.upon_value]
  go_wp2
  go_end0
  exact ⟨rfl, rfl⟩
theorem copyCheck_any (B b : Nat) (bs : List Value) (w : World) (h : BtIs B b bs w) :
    Calls Tryz.prog 116 #[.pointer (some ⟨b, 0, none⟩)] w fun e w' => e = .returned (.tuple #[]) ∧ (BtAt B b (.pointer (some ⟨b, 0, none⟩)) bs w' ∧ Below B w w') := by
  rcases h with h | h
  · refine (copyCheck_fresh b w h.cell0 h.shape h.frozen0).mono ?_
    rintro e w' ⟨rfl, rfl⟩
    exact ⟨rfl, h.used _, (Below.refl B w).setCell (p := ⟨b, 0, none⟩) h.1 _⟩
  · refine (copyCheck_used b w h.cell0).mono ?_
    rintro e w' ⟨rfl, rfl⟩
    exact ⟨rfl, h, Below.refl B _⟩
set_option maxRecDepth 100000 in
set_option maxHeartbeats 1000000 in
theorem writeString_any (B b : Nat) (bs : List Value) (s : ByteArray) (w : World) (h : BtIs B b bs w) (hlen : bs.length + s.size ≤ 140737488355328) (hBw : B ≤ w.heap.size) :
    Calls Tryz.prog 92 #[.pointer (some ⟨b, 0, none⟩), .string s] w fun e w' => e = .returned (.tuple #[.int .i64 s.size, .nilIface]) ∧ (BtAt B b (.pointer (some ⟨b, 0, none⟩)) (bs ++ Lib.strCells s) w' ∧ Below B w w') := by
  obtain ⟨i0, hi, hz0, hz1, hz2⟩ := info_parts Tryz.Builder_Extra_169.infoByte
  go_enter Tryz.func92, Tryz.ntmps92
  go_wp2_with fail
  refine (copyCheck_any B b bs _ h).mono ?_
  rintro e w1 ⟨rfl, h1, hb1⟩
  obtain ⟨hB, v, hbk, hown, hne⟩ := h1
  have c0 : w1.cell? ⟨b, 0, none⟩ = some (.pointer (some ⟨b, 0, none⟩)) := by rw [Lib.cell_of_heap hbk]; rfl
  have c1 : w1.cell? ⟨b, 1, none⟩ = some v := by rw [Lib.cell_of_heap hbk]; rfl
  go_wp2_with (at_builtin; refine Lib.wpList_append_own_string _ rfl _ _ 32 9 rfl B 5 i0 Tryz.underlying32 Tryz.underlying9 hi hz0 hz1 hz2 _ _ _ rfl hown s rfl ?c3 ?c4 ?c5 ?_)
  case c3 => unfold maxLen; omega
  case c4 => omega
  case c5 => have := hb1.size; omega
  intro v' w2 hown' hgrow _
  have hlt : b < w1.heap.size := by
    rcases Nat.lt_or_ge b w1.heap.size with h' | h'
    · exact h'
    · simp [Array.getElem?_eq_none h'] at hbk
  have hb2 : w2.heap[b]? = some (.cells #[.pointer (some ⟨b, 0, none⟩), v] 86 (0, 0)) := by
    rw [hgrow.block b hlt (fun e => hne e.symm)]
    exact hbk
  have d0 : w2.cell? ⟨b, 0, none⟩ = some (.pointer (some ⟨b, 0, none⟩)) := by rw [Lib.cell_of_heap hb2]; rfl
  have d1 : w2.cell? ⟨b, 1, none⟩ = some v := by rw [Lib.cell_of_heap hb2]; rfl
  have f1 : w2.frozen? ⟨b, 1, none⟩ = false := Lib.frozen_of_heap hb2 1
  obtain ⟨ao, n', cap, rfl⟩ : ∃ ao n' cap, v' = .slice ao n' cap := by
    rcases hown'.2 with ⟨hv, _⟩ | ⟨g, cap, cur, hv, _⟩
    · exact ⟨_, _, _, hv⟩
    · exact ⟨_, _, _, hv⟩
  go_wp2
  go_ret2
  refine ⟨rfl, ?_, ?_⟩
  · exact Lib.BuilderAt.put (T := 86) (e := 5) hB hb2 (bs' := bs ++ Lib.strCells s) (by simpa [Lib.strCells_length] using hown') Tryz.Builder_Extra_169.neB5
  · exact (hb1.grown hgrow (by have := hb1.size; omega) (fun k hk => (hown.lt k hk).1)).setCell (p := ⟨b, 1, none⟩) hB _
theorem BtAt.old {B b : Nat} {p : Value} {bs : List Value} {w w' : World} (h : BtAt B b p bs w) (o : Old w w') : BtAt B b p bs w' := by
  obtain ⟨hB, v, hbk, hown, hne⟩ := h
  refine ⟨hB, v, by rw [o.block b (Array.getElem?_eq_some_iff.1 hbk).1]; exact hbk, ?_, hne⟩
  refine ⟨hown.1, ?_⟩
  rcases hown.2 with hn | ⟨g, cap, cur, rfl, hg, hgg, rest⟩
  · exact .inl hn
  · exact .inr ⟨g, cap, cur, rfl, hg, by rw [o.block g (Array.getElem?_eq_some_iff.1 hgg).1]; exact hgg, rest⟩
theorem BtIs.old {B b : Nat} {bs : List Value} {w w' : World} (h : BtIs B b bs w) (o : Old w w') : BtIs B b bs w' := by
  rcases h with h | h
  · exact .inl (BtAt.old h o)
  · exact .inr (BtAt.old h o)
theorem write_any (B b : Nat) (t s : ByteArray) (w : World) (h : BtIs B b (Lib.byteCells t.data.toList) w) (hlen : t.size + s.size ≤ 140737488355328) (hBw : B ≤ w.heap.size) :
    Calls Tryz.prog 92 #[.pointer (some ⟨b, 0, none⟩), .string s] w fun e w' => e = .returned (.tuple #[.int .i64 s.size, .nilIface]) ∧ (BtIs B b (Lib.byteCells (t ++ s).data.toList) w' ∧ Below B w w') := by
  refine (writeString_any B b _ s w h (by rw [Lib.byteCells_length]; exact hlen) hBw).mono ?_
  rintro e w' ⟨rfl, h1, h2⟩
  refine ⟨rfl, .inr ?_, h2⟩
  rw [ByteArray.data_append, Array.toList_append, Lib.byteCells_append]
  exact h1
set_option maxRecDepth 100000 in
set_option maxHeartbeats 1000000 in
theorem formatNat_zero (A : Option Addr) (c : Nat) (w : World) :
    Calls Tryz.prog 64 #[.slice A 0 c] w fun e w' => e = .returned (.string ⟨#[48]⟩) ∧ Old w w' := by
  go_enter Tryz.func64, Tryz.ntmps64
  go_wp2
  go_ret
  exact ⟨rfl, Old.refl w⟩
set_option maxRecDepth 100000 in
set_option maxHeartbeats 1000000 in
theorem formatNat_yes (A : Option Addr) (n c : Nat) (f : Nat → Int) (lo : Nat) (w : World) (h : Row w lo A n c f) (hok : okP n f) (h0 : 0 < n) (K : KT w) :
    Calls Tryz.prog 64 #[.slice A n c] w fun e w' => e = .returned (.string (fT f n n)) ∧ Old w w' := by
  have hn := hok.1
  have HG := Lib.hid hok.2.1
  have HS := Lib.hid (fT_size f n hok.2.1)
  clear hok
  obtain ⟨b, o, rfl, hbl, hbs, hfz, hc⟩ := h.2 h0
  obtain ⟨p, hp⟩ : ∃ p : Nat, n = p + 1 := ⟨n - 1, by omega⟩
  subst hp
  have hx := hc p (by omega)
  clear hc hfz
  have e1 : ((p + 1 : Nat) : Int) - 1 = (p : Int) := by omega
  have hF : (fT f (p + 1) 1) = rFormatInt (f p) := fT_one f (p + 1)
  have HF := Lib.hid hF
  clear hF
  have hne : ((p : Int) + 1 == 0) = false := by simp; omega
  have gp := HG.out p (by omega)
  have GP := Lib.hid gp
  have hfp := rFormatInt_size (f p) (by omega) (by omega)
  clear gp
  have HB := Lib.hid (Lib.fresh_isBuilder 86 5 w)
  go_enter Tryz.func64, Tryz.ntmps64
  go_wp2_with fail
  refine (impl_FormatInt (f p) _ (by have := GP.out; omega) (K.old oldA)).mono ?_
  rintro e w2 ⟨rfl, o2⟩
  have b2 := BtIs.old HB.out o2
  have z2 := o2.size
  replace o2 : Old w w2 := Below.trans (b := _) oldA (Below.mono o2 leA)
  have b2' : BtIs w.heap.size w.heap.size (Lib.byteCells ByteArray.empty.data.toList) w2 := b2
  have zw := o2.size
  have K2 := K.old o2
  go_wp2_with fail
  refine (write_any w.heap.size w.heap.size ByteArray.empty (rFormatInt (f p)) _ b2' (by simp; omega) zw).mono ?_
  rintro e w3 ⟨rfl, b3, o3⟩
  rw [show ByteArray.empty ++ rFormatInt (f p) = rFormatInt (f p) by simp] at b3
  have O3 := Below.trans o2 o3
  have K3 := K.old O3
  go_wp2
  go_loopw [4] (fun i wr => ∃ j k : Nat, j + k = p + 1 ∧ 0 < k ∧ i = .int .i64 ((j : Int) - 1) ∧ BtIs w.heap.size w.heap.size (Lib.byteCells (fT f (p + 1) k).data.toList) wr ∧ Old w wr) (fun i _ => szN i)
  case atStart => exact ⟨p, 1, rfl, by omega, congrArg (Value.int .i64) (by omega), by rw [HF.out]; exact b3, O3⟩
  case round =>
    obtain ⟨j, k, hj, hk, rfl, hbt, hb⟩ := hrel
    have zr := hb.size
    rcases j with _ | m
    · obtain rfl : k = p + 1 := by omega
      rw [show ((0 : Nat) : Int) - 1 = -1 by omega]
      go_wp2_with fail
      refine (Tryz.Builder_String_any w.heap.size w.heap.size _ _ hbt zr).mono ?_
      rintro e w4 ⟨rfl, o4⟩
      go_wp2
      go_ret
      exact ⟨rfl, Below.trans hb o4⟩
    · have hi : ((m + 1 : Nat) : Int) - 1 = (m : Int) := by omega
      rw [hi]
      have hR := h.below hb (Nat.le_refl _)
      obtain ⟨b', o', e', _, _, _, hc'⟩ := hR.2 (by omega)
      injection e' with e'
      injection e' with e1' e2'
      subst e1' e2'
      have hxm := hc' m (by omega)
      clear hc' hR
      have gm := HG.out m (by omega)
      have GM := Lib.hid gm
      clear gm
      have hsz := HS.out k (by omega)
      have hsz1 : (fT f (p + 1) k).size ≤ 1860 := by omega
      have hp9 := pad9_size (rFormatInt (f m)) (rFormatInt_size (f m) (by have := GM.out; omega) (by have := GM.out; omega))
      have hfi := rFormatInt_size (f m) (by have := GM.out; omega) (by have := GM.out; omega)
      have HST := Lib.hid (fT_step f (n := p + 1) (m := m) (k := k) (by omega) hk)
      have Kr := K.old hb
      clear hsz
      go_wp2_with fail
      refine (impl_FormatInt (f m) _ (by have := GM.out; omega) Kr).mono ?_
      rintro e w4 ⟨rfl, o4⟩
      go_wp2_with fail
      refine (impl_PadZeros (rFormatInt (f m)) 9 _ (by unfold maxLen; omega) (by omega)).mono ?_
      rintro e w5 ⟨rfl, o5⟩
      have O5 := Old.trans o4 o5
      have hbt5 := BtIs.old hbt O5
      have z5 := O5.size
      go_wp2_with fail
      refine (write_any w.heap.size w.heap.size (fT f (p + 1) k) (rPadZeros (rFormatInt (f m)) 9) _ hbt5 (by omega) (by omega)).mono ?_
      rintro e w6 ⟨rfl, b6, o6⟩
      go_wp2
      go_roundw
      case rel => exact ⟨m, k + 1, by omega, by omega, by go_num, by rw [HST.out]; exact b6, Below.trans hb (Below.trans (Below.mono O5 zr) o6)⟩
      case measure => simp [szN]
theorem formatNat_any (A : Option Addr) (n c lo : Nat) (f : Nat → Int) (w : World) (h : Row w lo A n c f) (hok : okP n f) (K : KT w) :
    Calls Tryz.prog 64 #[.slice A n c] w fun e w' => e = .returned (.string (rFormatNat n f)) ∧ Old w w' := by
  by_cases h0 : n = 0
  · subst h0
    rw [show rFormatNat 0 f = ⟨#[48]⟩ by unfold rFormatNat; rw [if_pos hok, if_pos rfl]]
    exact formatNat_zero A c w
  · rw [show rFormatNat n f = fT f n n by unfold rFormatNat; rw [if_pos hok, if_neg h0]]
    exact formatNat_yes A n c f lo w h hok (by omega) K
end Go.Proofs.YtgchbbjhdeobpaaGreatDoor
