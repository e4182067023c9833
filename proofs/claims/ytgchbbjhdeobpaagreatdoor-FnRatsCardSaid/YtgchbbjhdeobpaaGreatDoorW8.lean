import Derived.BigQuiet
import Derived.Deep.OwnRows
import Derived.Deep.QuietTactic
import Derived.Lib.AtoiErrMem
import Derived.Lib.ConvBytes
import Derived.Lib.Hide
import Derived.Lib.Strings
import Derived.Test.YtgchbbjhdeobpaaGreatDoorRows
import Derived.WalkKit
import Derived.WalkLawsBesides
import Derived.WalkSpells
import Ieee.Arith
import Derived.Test.YtgchbbjhdeobpaaGreatDoorW1
import Derived.Test.YtgchbbjhdeobpaaGreatDoorW3
import Derived.Test.YtgchbbjhdeobpaaGreatDoorW4
import Derived.Test.YtgchbbjhdeobpaaGreatDoorW6
/- What the claim's proof reaches of: Parse. -/
namespace Go.Proofs.YtgchbbjhdeobpaaGreatDoor
set_option linter.unusedVariables false
open Go.RowKit Num

/-- The number that the byte at place i stands for. -/
def chr (s : ByteArray) (i : Nat) : Nat := if h : i < s.size then (s[i]).toNat - 48 else 0
/-- The value of n digits from place a on. -/
def dv (s : ByteArray) (a : Nat) : Nat → Nat
  | 0 => 0
  | n + 1 => 10 * dv s a n + chr s (a + n)
theorem dv_add (s : ByteArray) (a m : Nat) : ∀ n, dv s a (m + n) = dv s a m * 10 ^ n + dv s (a + m) n
  | 0 => by simp [dv]
  | n + 1 => by
    rw [← Nat.add_assoc, dv, dv, dv_add s a m n, Nat.pow_succ, Nat.mul_add, Nat.add_assoc a m n]
    have e : 10 * (dv s a m * 10 ^ n) = dv s a m * (10 ^ n * 10) := by rw [Nat.mul_left_comm, Nat.mul_comm 10]
    omega
theorem chr_le {s : ByteArray} (h : inR s 48 57) (i : Nat) : chr s i ≤ 9 := by
  unfold chr; split
  · next hi => have := (h i hi).2; omega
  · omega
theorem dv_lt {s : ByteArray} (h : inR s 48 57) (a : Nat) : ∀ n, dv s a n < 10 ^ n
  | 0 => by simp [dv]
  | n + 1 => by have h1 := dv_lt h a n; have h2 := chr_le h (a + n); rw [dv, Nat.pow_succ]; omega
theorem pow9 (k : Nat) : 10 ^ (9 * k) = B ^ k := by rw [Nat.pow_mul, B_eq]
theorem chunk {s : ByteArray} (h : inR s 48 57) {e k n : Nat} (hn : n = e + 9 * k) : dv s 0 n / B ^ k = dv s 0 e := by
  rw [hn, dv_add, pow9, Nat.zero_add, Nat.mul_comm]
  have h1 := dv_lt h e (9 * k)
  rw [pow9] at h1
  rw [Nat.mul_add_div (pow_pos k), Nat.div_eq_of_lt h1, Nat.add_zero]
theorem chunk_dig {s : ByteArray} (h : inR s 48 57) {e k n : Nat} (hn : n = e + 9 * k) : dig (dv s 0 n) k = dv s (e - 9) (e - (e - 9)) := by
  unfold dig
  rw [chunk h hn]
  by_cases h9 : 9 ≤ e
  · have h1 := dv_add s 0 (e - 9) 9
    rw [show e - 9 + 9 = e by omega, Nat.zero_add] at h1
    have h2 := dv_lt h (e - 9) 9
    rw [show e - (e - 9) = 9 by omega, h1, B_eq]
    generalize dv s (e - 9) 9 = t at *
    generalize dv s 0 (e - 9) = u at *
    omega
  · have h2 := dv_lt h 0 e
    have h3 : 10 ^ e ≤ 10 ^ 9 := Nat.pow_le_pow_right (by omega) (by omega)
    rw [show e - 9 = 0 by omega, Nat.sub_zero, Nat.mod_eq_of_lt (by rw [B_eq]; omega)]
theorem dv_le9 {s : ByteArray} (h : inR s 48 57) {a n : Nat} (hn : n ≤ 9) : dv s a n ≤ 999999999 := by
  have h2 := dv_lt h a n
  have h3 : 10 ^ n ≤ 10 ^ 9 := Nat.pow_le_pow_right (by omega) hn
  omega
theorem dv_step {s : ByteArray} (h : inR s 48 57) {a n : Nat} (hi : a + n < s.size) : ((dv s a n : Nat) : Int) * 10 + (((s[a + n]).toNat : Nat) : Int) - 48 = ((dv s a (n + 1) : Nat) : Int) := by
  have h1 := (h (a + n) hi).1
  have e : chr s (a + n) = (s[a + n]).toNat - 48 := dif_pos hi
  rw [dv, e]
  omega
theorem len_dv {s : ByteArray} (h : inR s 48 57) {n k : Nat} (hk : n ≤ 9 * k) : len (dv s 0 n) ≤ k := by
  apply len_le_iff.2
  have h1 := dv_lt h 0 n
  have h2 : 10 ^ n ≤ 10 ^ (9 * k) := Nat.pow_le_pow_right (by omega) hk
  rw [pow9] at h2
  omega
def c0 (s : ByteArray) : Nat := if h : 0 < s.size then (s[0]).toNat else 0
def okN (s : ByteArray) : Prop := rIsDigits s = true ∧ s.size ≤ 540 ∧ ¬ (1 < s.size ∧ c0 s = 48)
open Classical in
noncomputable def rParseNat (s : ByteArray) : Nat := if okN s then dv s 0 s.size else 0
open Classical in
noncomputable def rParseNat1 (s : ByteArray) : Bool := decide (okN s)
open Classical in
theorem rParse_yes {s : ByteArray} (k : okN s) : rParseNat s = dv s 0 s.size ∧ rParseNat1 s = true := ⟨if_pos k, decide_eq_true k⟩
open Classical in
theorem rParse_no {s : ByteArray} (k : ¬ okN s) : rParseNat s = 0 ∧ rParseNat1 s = false := ⟨if_neg k, decide_eq_false k⟩
theorem inB_iff {s : ByteArray} {lo hi : Int} (h : inB s lo hi = true) : inR s lo hi := by simpa [inB] using h
theorem okN_in {s : ByteArray} (k : okN s) : inR s 48 57 ∧ 0 < s.size := by
  have h := k.1
  unfold rIsDigits at h
  rw [Bool.and_eq_true] at h
  have h0 := of_decide_eq_true h.1
  exact ⟨inB_iff h.2, Nat.pos_of_ne_zero h0⟩
theorem rParseNat_len (s : ByteArray) : len (rParseNat s) ≤ 60 := by
  by_cases k : okN s
  · rw [(rParse_yes k).1]; exact len_dv (okN_in k).1 (by have := k.2.1; omega)
  · rw [(rParse_no k).1, len_zero]; omega
/-- A natural number in new memory, and whether the text was one. -/
def RetNB (e : Ending) (w : World) (lo r : Nat) (b : Bool) : Prop := ∃ A c, e = .returned (.tuple #[.slice A (len r) c, .bool b]) ∧ NatS w lo A c r
theorem own_below {w w' : World} {base n : Nat} {v : Value} {e : TypeId} {xs : List Value} (h : w.ownsRow base e 1 v n xs) (hb : Old w w') : w'.ownsRow base e 1 v n xs := by
  refine ⟨h.1, ?_⟩
  rcases h.2 with hn | ⟨g, cap, cur, rfl, hg, hgg, rest⟩
  · exact .inl hn
  · exact .inr ⟨g, cap, cur, rfl, hg, by rw [hb.block g (Array.getElem?_eq_some_iff.1 hgg).1]; exact hgg, rest⟩
theorem bytes_conv (s : ByteArray) (f e : Nat) (w : World) (he : e ≤ s.size) (hf : f ≤ e) : ∃ wb cp, (convert 9 32 (.string (s.extract f e))).run Tryz.prog w = .ok (.slice (some ⟨w.heap.size, 0, none⟩) (e - f) cp) wb ∧ (∀ j (h : j < e - f), wb.cell? ⟨w.heap.size, j, none⟩ = some (.int .u8 (((s[f + j]).toNat : Nat) : Int))) ∧ Old w wb := by
  have hsz : (s.extract f e).size = e - f := by simp [ByteArray.size_extract]; omega
  refine ⟨Lib.bytesWorld w 5 (s.extract f e), grownCap w (s.extract f e).size 0 5, ?_, ?_, Lib.bytesWorld_below _ _ _⟩
  · have h := Lib.run_convert_string_bytes (P := Tryz.prog) w 9 32 5 (s.extract f e) Tryz.underlying9 Tryz.underlying32 Tryz.underlying5
    rw [hsz] at h
    rw [hsz]
    exact h
  · intro j h
    rw [Lib.bytesWorld_cell _ _ _ j (by omega)]
    have hj : j < (s.extract f e).size := by omega
    have e1 : (s.extract f e).data.toList.getD j 0 = (s.extract f e)[j] := by
      rw [List.getD_eq_getElem?_getD, List.getElem?_eq_getElem (by exact hj)]; rfl
    rw [e1, ByteArray.getElem_extract]
set_option maxRecDepth 100000 in
set_option maxHeartbeats 1000000 in
theorem impl_ParseNat_yes (s : ByteArray) (w : World) (hd : rIsDigits s = true) (hR : inR s 48 57) (hs0 : 0 < s.size) (hs : s.size ≤ 540) (hg : ¬ (1 < s.size ∧ c0 s = 48)) :
    Calls Tryz.prog 27 #[.string s] w fun e w' => RetNB e w' w.heap.size (dv s 0 s.size) true ∧ Old w w' := by
  have HD := Lib.hid hd
  have hc0 : (s[0]'hs0).toNat = c0 s := by unfold c0; rw [dif_pos hs0]
  have b : s.size ≤ maxLen := by unfold maxLen; omega
  have h540 : decide ((540 : Int) < (s.size : Int)) = false := decide_eq_false (by omega)
  have h541 : ¬ (540 : Int) < (s.size : Int) := by omega
  obtain ⟨V, hV⟩ : ∃ V, V = dv s 0 s.size := ⟨_, rfl⟩
  have HV := Lib.hid hV
  have HR := Lib.hid hR
  rw [← hV]
  clear hd hR hV
  by_cases h1 : 1 < s.size
  · have hne : ¬ ((s[0]'hs0).toNat : Int) = 48 := by have : ¬ c0 s = 48 := fun h => hg ⟨h1, h⟩; omega
    have hne2 : (((s[0]'hs0).toNat : Int) == 48) = false := by simpa using hne
    clear hg hc0
    go_enter Tryz.func27, Tryz.ntmps27
    go_wp2_with fail
    refine (impl_IsDigits s _ b).mono ?_
    rintro e w1 ⟨he, o1⟩
    rw [HD.out] at he
    subst he
    go_wp2
    have z0 := o1.size
    go_loopw [4, 5] (fun v x wr => ∃ (k : Nat), 9 * k ≤ s.size + 8 ∧ x = .int .i64 ((s.size : Int) - 9 * (k : Int)) ∧ wr.ownsRow w1.heap.size 3 1 v k (NV (low k V)) ∧ Old w1 wr) (fun _ x _ => (intOf x).toNat)
    case atStart => exact ⟨0, by omega, congrArg (Value.int .i64) (by omega), World.ownsRow_made _ _ _ (Nat.le_refl _) (by simp [maxLen]) rfl, (Old.refl w1).alloc (Nat.le_refl _) _⟩
    case round =>
      obtain ⟨k, hk, rfl, hown, hb⟩ := hrel
      have zr := hb.size
      by_cases hpos : 9 * k < s.size
      · obtain ⟨e, he⟩ : ∃ e : Nat, s.size = e + 9 * k := ⟨s.size - 9 * k, by omega⟩
        have hep : 0 < e := by omega
        have Hdig := Lib.hid (chunk_dig HR.out he)
        have hx : (s.size : Int) - 9 * (k : Int) = (e : Int) := by omega
        have hes : e ≤ s.size := by omega
        have He := Lib.hid he
        rw [hx]
        clear he hx
        by_cases h9 : 9 < e
        · have i9 : (0 : Int) < (e : Int) - 9 := by omega
          obtain ⟨f, hf⟩ : ∃ f, f = e - 9 := ⟨_, rfl⟩
          obtain ⟨wb, cp, hcv, hcell, hbel⟩ := bytes_conv s f e wr hes (by omega)
          have HF := Lib.hid (show f = e - 9 by omega)
          have hfe : f ≤ e := by omega
          have hfe9 : e ≤ f + 9 := by omega
          rw [← HF.out] at Hdig
          obtain ⟨m, hm⟩ : ∃ m, m = e - f := ⟨_, rfl⟩
          rw [← hm] at hcv
          have Hcell : Hid (∀ j (h : f + j < s.size), j < m → wb.cell? ⟨wr.heap.size, j, none⟩ = some (.int .u8 (((s[f + j]).toNat : Nat) : Int))) := Lib.hid fun j h hj => hcell j (by omega)
          clear hcell
          have hown' := own_below hown hbel
          have zb := hbel.size
          have HM := Lib.hid hm
          have hm9 : m ≤ 9 := by omega
          have hme : f + m = e := by omega
          have HME := Lib.hid hme
          have HF0 := Lib.hid hf
          clear hm hme hf
          go_wp2_with fail
          rw [← HF0.out]
          rw [hcv]
          clear hcv
          go_wp2
          go_loop [6, 42] (fun n i => ∃ (q j : Nat), j ≤ m ∧ q ≤ 999999999 ∧ n = .int .i64 (q : Int) ∧ i = .int .i64 (j : Int) ∧ Hid (q = dv s f j)) (fun _ i => m - (intOf i).toNat)
          case atStart => exact ⟨0, 0, Nat.zero_le _, Nat.zero_le _, rfl, rfl, Lib.hid rfl⟩
          case round =>
            obtain ⟨q, j, hj, hq9, rfl, rfl, hq⟩ := hrel
            by_cases hlt : j < m
            · have hi : f + j < s.size := by have := HME.out; omega
              have hst := Lib.hid (dv_step HR.out hi)
              have hc1 : 48 ≤ ((s[f + j]).toNat : Int) := (HR.out (f + j) hi).1
              have hc2 : ((s[f + j]).toNat : Int) ≤ 57 := (HR.out (f + j) hi).2
              have hq2 : dv s f (j + 1) ≤ 999999999 := dv_le9 HR.out (by omega)
              have HQ2 := Lib.hid hq2
              have qc := Hcell.out j hi hlt
              clear hq2
              go_wp2
              go_round
              case rel => exact ⟨dv s f (j + 1), j + 1, by omega, HQ2.out, congrArg (Value.int .i64) (by have := hst.out; have := hq.out; omega), by go_num, Lib.hid rfl⟩
              case measure => simp [intOf]; omega
            · have e1 : j = m := by omega
              have Hq : Hid ((q : Int) = ((dig V k : Nat) : Int)) := Lib.hid (by rw [HV.out, Hdig.out, hq.out, e1, HM.out])
              go_wp2_with (at_builtin; refine wpList_app1 (d := dig V k) rfl (.tmp 53) (.tmp 55) rfl rfl (hown'.alloc _) rfl (cell_new1 _ _ _) ?hq ?hn ?hsz ?_; (case hq => exact Hq.out); (case hn => omega); (case hsz => simp; omega); intro v2 w2 hown2 hb2)
              go_roundw
              case rel => exact ⟨k + 1, by omega, congrArg (Value.int .i64) (by have := He.out; omega), by rw [low_succ]; exact hown2, ((Old.trans hb hbel).alloc (by omega) _).trans hb2⟩
              case measure => simp [intOf]; have := He.out; omega
        · have i9 : ¬ (0 : Int) < (e : Int) - 9 := by omega
          obtain ⟨f, hf⟩ : ∃ f, f = 0 := ⟨_, rfl⟩
          obtain ⟨wb, cp, hcv, hcell, hbel⟩ := bytes_conv s f e wr hes (by omega)
          have HF := Lib.hid (show f = e - 9 by omega)
          have hfe : f ≤ e := by omega
          have hfe9 : e ≤ f + 9 := by omega
          rw [← HF.out] at Hdig
          obtain ⟨m, hm⟩ : ∃ m, m = e - f := ⟨_, rfl⟩
          rw [← hm] at hcv
          have Hcell : Hid (∀ j (h : f + j < s.size), j < m → wb.cell? ⟨wr.heap.size, j, none⟩ = some (.int .u8 (((s[f + j]).toNat : Nat) : Int))) := Lib.hid fun j h hj => hcell j (by omega)
          clear hcell
          have hown' := own_below hown hbel
          have zb := hbel.size
          have HM := Lib.hid hm
          have hm9 : m ≤ 9 := by omega
          have hme : f + m = e := by omega
          have HME := Lib.hid hme
          have HF0 := Lib.hid hf
          clear hm hme hf
          go_wp2_with fail
          rw [HF0.out] at hcv
          rw [hcv]
          clear hcv
          go_wp2
          go_loop [6, 42] (fun n i => ∃ (q j : Nat), j ≤ m ∧ q ≤ 999999999 ∧ n = .int .i64 (q : Int) ∧ i = .int .i64 (j : Int) ∧ Hid (q = dv s f j)) (fun _ i => m - (intOf i).toNat)
          case atStart => exact ⟨0, 0, Nat.zero_le _, Nat.zero_le _, rfl, rfl, Lib.hid rfl⟩
          case round =>
            obtain ⟨q, j, hj, hq9, rfl, rfl, hq⟩ := hrel
            by_cases hlt : j < m
            · have hi : f + j < s.size := by have := HME.out; omega
              have hst := Lib.hid (dv_step HR.out hi)
              have hc1 : 48 ≤ ((s[f + j]).toNat : Int) := (HR.out (f + j) hi).1
              have hc2 : ((s[f + j]).toNat : Int) ≤ 57 := (HR.out (f + j) hi).2
              have hq2 : dv s f (j + 1) ≤ 999999999 := dv_le9 HR.out (by omega)
              have HQ2 := Lib.hid hq2
              have qc := Hcell.out j hi hlt
              clear hq2
              go_wp2
              go_round
              case rel => exact ⟨dv s f (j + 1), j + 1, by omega, HQ2.out, congrArg (Value.int .i64) (by have := hst.out; have := hq.out; omega), by go_num, Lib.hid rfl⟩
              case measure => simp [intOf]; omega
            · have e1 : j = m := by omega
              have Hq : Hid ((q : Int) = ((dig V k : Nat) : Int)) := Lib.hid (by rw [HV.out, Hdig.out, hq.out, e1, HM.out])
              go_wp2_with (at_builtin; refine wpList_app1 (d := dig V k) rfl (.tmp 53) (.tmp 55) rfl rfl (hown'.alloc _) rfl (cell_new1 _ _ _) ?hq ?hn ?hsz ?_; (case hq => exact Hq.out); (case hn => omega); (case hsz => simp; omega); intro v2 w2 hown2 hb2)
              go_roundw
              case rel => exact ⟨k + 1, by omega, congrArg (Value.int .i64) (by have := He.out; omega), by rw [low_succ]; exact hown2, ((Old.trans hb hbel).alloc (by omega) _).trans hb2⟩
              case measure => simp [intOf]; have := He.out; omega
      · have hl : len V ≤ k := by rw [HV.out]; exact len_dv HR.out (by omega)
        have hx : ¬ (0 : Int) < (s.size : Int) - 9 * (k : Int) := by omega
        obtain ⟨A, c, rfl, hrow⟩ := own_low hown
        go_wp2_with (go_at_call 59; refine (trimmed_any _ _ _ V _ _ hrow hl (by omega)).mono ?_; rintro e w2 ⟨rfl, o2⟩)
        go_ret2
        exact ⟨⟨_, _, rfl, Row.more (NatS.below (hrow.take hl) o2) leA⟩, Old.trans o1 (Old.trans hb o2)⟩
  · clear hg hc0
    go_enter Tryz.func27, Tryz.ntmps27
    go_wp2_with fail
    refine (impl_IsDigits s _ b).mono ?_
    rintro e w1 ⟨he, o1⟩
    rw [HD.out] at he
    subst he
    go_wp2
    have z0 := o1.size
    go_loopw [4, 5] (fun v x wr => ∃ (k : Nat), 9 * k ≤ s.size + 8 ∧ x = .int .i64 ((s.size : Int) - 9 * (k : Int)) ∧ wr.ownsRow w1.heap.size 3 1 v k (NV (low k V)) ∧ Old w1 wr) (fun _ x _ => (intOf x).toNat)
    case atStart => exact ⟨0, by omega, congrArg (Value.int .i64) (by omega), World.ownsRow_made _ _ _ (Nat.le_refl _) (by simp [maxLen]) rfl, (Old.refl w1).alloc (Nat.le_refl _) _⟩
    case round =>
      obtain ⟨k, hk, rfl, hown, hb⟩ := hrel
      have zr := hb.size
      by_cases hpos : 9 * k < s.size
      · obtain ⟨e, he⟩ : ∃ e : Nat, s.size = e + 9 * k := ⟨s.size - 9 * k, by omega⟩
        have hep : 0 < e := by omega
        have Hdig := Lib.hid (chunk_dig HR.out he)
        have hx : (s.size : Int) - 9 * (k : Int) = (e : Int) := by omega
        have hes : e ≤ s.size := by omega
        have He := Lib.hid he
        rw [hx]
        clear he hx
        by_cases h9 : 9 < e
        · have i9 : (0 : Int) < (e : Int) - 9 := by omega
          exfalso; have := He.out; omega
        · have i9 : ¬ (0 : Int) < (e : Int) - 9 := by omega
          obtain ⟨f, hf⟩ : ∃ f, f = 0 := ⟨_, rfl⟩
          obtain ⟨wb, cp, hcv, hcell, hbel⟩ := bytes_conv s f e wr hes (by omega)
          have HF := Lib.hid (show f = e - 9 by omega)
          have hfe : f ≤ e := by omega
          have hfe9 : e ≤ f + 9 := by omega
          rw [← HF.out] at Hdig
          obtain ⟨m, hm⟩ : ∃ m, m = e - f := ⟨_, rfl⟩
          rw [← hm] at hcv
          have Hcell : Hid (∀ j (h : f + j < s.size), j < m → wb.cell? ⟨wr.heap.size, j, none⟩ = some (.int .u8 (((s[f + j]).toNat : Nat) : Int))) := Lib.hid fun j h hj => hcell j (by omega)
          clear hcell
          have hown' := own_below hown hbel
          have zb := hbel.size
          have HM := Lib.hid hm
          have hm9 : m ≤ 9 := by omega
          have hme : f + m = e := by omega
          have HME := Lib.hid hme
          have HF0 := Lib.hid hf
          clear hm hme hf
          go_wp2_with fail
          rw [HF0.out] at hcv
          rw [hcv]
          clear hcv
          go_wp2
          go_loop [6, 42] (fun n i => ∃ (q j : Nat), j ≤ m ∧ q ≤ 999999999 ∧ n = .int .i64 (q : Int) ∧ i = .int .i64 (j : Int) ∧ Hid (q = dv s f j)) (fun _ i => m - (intOf i).toNat)
          case atStart => exact ⟨0, 0, Nat.zero_le _, Nat.zero_le _, rfl, rfl, Lib.hid rfl⟩
          case round =>
            obtain ⟨q, j, hj, hq9, rfl, rfl, hq⟩ := hrel
            by_cases hlt : j < m
            · have hi : f + j < s.size := by have := HME.out; omega
              have hst := Lib.hid (dv_step HR.out hi)
              have hc1 : 48 ≤ ((s[f + j]).toNat : Int) := (HR.out (f + j) hi).1
              have hc2 : ((s[f + j]).toNat : Int) ≤ 57 := (HR.out (f + j) hi).2
              have hq2 : dv s f (j + 1) ≤ 999999999 := dv_le9 HR.out (by omega)
              have HQ2 := Lib.hid hq2
              have qc := Hcell.out j hi hlt
              clear hq2
              go_wp2
              go_round
              case rel => exact ⟨dv s f (j + 1), j + 1, by omega, HQ2.out, congrArg (Value.int .i64) (by have := hst.out; have := hq.out; omega), by go_num, Lib.hid rfl⟩
              case measure => simp [intOf]; omega
            · have e1 : j = m := by omega
              have Hq : Hid ((q : Int) = ((dig V k : Nat) : Int)) := Lib.hid (by rw [HV.out, Hdig.out, hq.out, e1, HM.out])
              go_wp2_with (at_builtin; refine wpList_app1 (d := dig V k) rfl (.tmp 53) (.tmp 55) rfl rfl (hown'.alloc _) rfl (cell_new1 _ _ _) ?hq ?hn ?hsz ?_; (case hq => exact Hq.out); (case hn => omega); (case hsz => simp; omega); intro v2 w2 hown2 hb2)
              go_roundw
              case rel => exact ⟨k + 1, by omega, congrArg (Value.int .i64) (by have := He.out; omega), by rw [low_succ]; exact hown2, ((Old.trans hb hbel).alloc (by omega) _).trans hb2⟩
              case measure => simp [intOf]; have := He.out; omega
      · have hl : len V ≤ k := by rw [HV.out]; exact len_dv HR.out (by omega)
        have hx : ¬ (0 : Int) < (s.size : Int) - 9 * (k : Int) := by omega
        obtain ⟨A, c, rfl, hrow⟩ := own_low hown
        go_wp2_with (go_at_call 59; refine (trimmed_any _ _ _ V _ _ hrow hl (by omega)).mono ?_; rintro e w2 ⟨rfl, o2⟩)
        go_ret2
        exact ⟨⟨_, _, rfl, Row.more (NatS.below (hrow.take hl) o2) leA⟩, Old.trans o1 (Old.trans hb o2)⟩
set_option maxRecDepth 100000 in
set_option maxHeartbeats 1000000 in
theorem impl_ParseNat_no1 (s : ByteArray) (w : World) (b : s.size ≤ maxLen) (hd : rIsDigits s = false) :
    Calls Tryz.prog 27 #[.string s] w fun e w' => e = .returned (.tuple #[.slice none 0 0, .bool false]) ∧ Old w w' := by
  have HD := Lib.hid hd
  clear hd
  go_enter Tryz.func27, Tryz.ntmps27
  go_wp2_with fail
  refine (impl_IsDigits s _ b).mono ?_
  rintro e w1 ⟨he, o1⟩
  rw [HD.out] at he
  subst he
  go_wp2
  go_ret2
  exact ⟨rfl, o1⟩
set_option maxRecDepth 100000 in
set_option maxHeartbeats 1000000 in
theorem impl_ParseNat_no2 (s : ByteArray) (w : World) (b : s.size ≤ maxLen) (hd : rIsDigits s = true) (h : 540 < s.size) :
    Calls Tryz.prog 27 #[.string s] w fun e w' => e = .returned (.tuple #[.slice none 0 0, .bool false]) ∧ Old w w' := by
  have HD := Lib.hid hd
  have h1 : (540 : Int) < (s.size : Int) := by omega
  clear hd
  go_enter Tryz.func27, Tryz.ntmps27
  go_wp2_with fail
  refine (impl_IsDigits s _ b).mono ?_
  rintro e w1 ⟨he, o1⟩
  rw [HD.out] at he
  subst he
  go_wp2
  go_ret2
  exact ⟨rfl, o1⟩
set_option maxRecDepth 100000 in
set_option maxHeartbeats 1000000 in
theorem impl_ParseNat_no3 (s : ByteArray) (w : World) (hd : rIsDigits s = true) (h : s.size ≤ 540) (h1 : 1 < s.size) (hs0 : 0 < s.size) (hc : (s[0]).toNat = 48) :
    Calls Tryz.prog 27 #[.string s] w fun e w' => e = .returned (.tuple #[.slice none 0 0, .bool false]) ∧ Old w w' := by
  have HD := Lib.hid hd
  have b : s.size ≤ maxLen := by unfold maxLen; omega
  have h540 : decide ((540 : Int) < (s.size : Int)) = false := decide_eq_false (by omega)
  have h541 : ¬ (540 : Int) < (s.size : Int) := by omega
  have he1 : (((s[0]'hs0).toNat : Int) == 48) = true := by simp [hc]
  have he2 : ((s[0]'hs0).toNat : Int) = 48 := by omega
  clear hd hc
  go_enter Tryz.func27, Tryz.ntmps27
  go_wp2_with fail
  refine (impl_IsDigits s _ b).mono ?_
  rintro e w1 ⟨he, o1⟩
  rw [HD.out] at he
  subst he
  go_wp2
  go_ret2
  exact ⟨rfl, o1⟩
theorem impl_ParseNat (s : ByteArray) (w : World) (b : s.size ≤ maxLen) :
    Calls Tryz.prog 27 #[.string s] w fun e w' => RetNB e w' w.heap.size (rParseNat s) (rParseNat1 s) ∧ Old w w' := by
  have nil : (¬ okN s) → ∀ e w', (e = .returned (.tuple #[.slice none 0 0, .bool false]) ∧ Old w w') → RetNB e w' w.heap.size (rParseNat s) (rParseNat1 s) ∧ Old w w' := by
    rintro k e w' ⟨rfl, o⟩
    rw [(rParse_no k).1, (rParse_no k).2]
    exact ⟨⟨none, 0, by rw [len_zero], NatS.zero _ _ _ _⟩, o⟩
  cases hd : rIsDigits s with
  | false => exact (impl_ParseNat_no1 s w b hd).mono (nil fun k => by rw [k.1] at hd; cases hd)
  | true =>
    by_cases h2 : s.size ≤ 540
    · by_cases h3 : 1 < s.size ∧ c0 s = 48
      · have hs0 : 0 < s.size := by omega
        have hc : (s[0]'hs0).toNat = 48 := by have h := h3.2; unfold c0 at h; rw [dif_pos hs0] at h; exact h
        exact (impl_ParseNat_no3 s w hd h2 h3.1 hs0 hc).mono (nil fun k => k.2.2 h3)
      · have k : okN s := ⟨hd, h2, h3⟩
        rw [(rParse_yes k).1, (rParse_yes k).2]
        exact impl_ParseNat_yes s w hd (okN_in k).1 (okN_in k).2 h2 h3
    · exact (impl_ParseNat_no2 s w b hd (by omega)).mono (nil fun k => h2 k.2.1)
end Go.Proofs.YtgchbbjhdeobpaaGreatDoor
