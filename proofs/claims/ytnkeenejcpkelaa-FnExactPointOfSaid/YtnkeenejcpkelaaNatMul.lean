/-
  The product of two natural numbers: l02Mul, natMul.
-/
import Derived.Test.YtnkeenejcpkelaaNatSub
namespace Go.Proofs.Ytnkeenejcpkelaa
set_option linter.unusedVariables false
open Go.RowKit Num

def at0 (o : List Nat) (j : Nat) : Nat := o.getD j 0
def atI (o : List Nat) : Nat → Int := fun j => ((at0 o j : Nat) : Int)
/-- What the outer loop of a product holds after i rounds. -/
structure MulOut (x y i : Nat) (o : List Nat) : Prop where
  len : o.length = Num.len x + Num.len y
  lt : ∀ d ∈ o, d < B
  eq : val o = x % B ^ i * y
/-- What the inner loop holds after k rounds. -/
structure MulMid (x y i k : Nat) (o : List Nat) (c : Nat) : Prop where
  len : o.length = Num.len x + Num.len y
  inn : MulIn x y i k o c
theorem mulOut_start (x y : Nat) : MulOut x y 0 (List.replicate (len x + len y) 0) := ⟨by simp, zeros_lt _, by rw [val_zeros]; simp [Nat.mod_one]⟩
theorem at0_zeros (n j : Nat) : at0 (List.replicate n 0) j = 0 := by
  unfold at0; rw [List.getD_eq_getElem?_getD, List.getElem?_replicate]; split <;> rfl
theorem MulOut.mid {x y i : Nat} {o : List Nat} (h : MulOut x y i o) : MulMid x y i 0 o 0 := ⟨h.len, mulIn_start h.lt h.eq⟩
theorem MulMid.at_le {x y i k c : Nat} {o : List Nat} (h : MulMid x y i k o c) (j : Nat) : at0 o j ≤ 999999999 := by
  have := getD_lt h.inn.lt j; rw [B_eq] at this; unfold at0; omega
theorem MulMid.c_le {x y i k c : Nat} {o : List Nat} (h : MulMid x y i k o c) : c ≤ 999999999 := by
  have := h.inn.cl; rw [B_eq] at this; omega
theorem dig_mul_le (x i y k : Nat) : ((dig x i : Nat) : Int) * ((dig y k : Nat) : Int) ≤ 999999998000000001 := by
  have h : dig x i * dig y k ≤ 999999999 * 999999999 := Nat.mul_le_mul (dig_le x i) (dig_le y k)
  have e : ((dig x i * dig y k : Nat) : Int) = ((dig x i : Nat) : Int) * ((dig y k : Nat) : Int) := Int.natCast_mul _ _
  omega
theorem dig_mul_ge (x i y k : Nat) : 0 ≤ ((dig x i : Nat) : Int) * ((dig y k : Nat) : Int) := by
  have e : ((dig x i * dig y k : Nat) : Int) = ((dig x i : Nat) : Int) * ((dig y k : Nat) : Int) := Int.natCast_mul _ _
  omega
def mulN (x y i k : Nat) (o : List Nat) (c : Nat) : Nat := at0 o (i + k) + dig x i * dig y k + c
theorem mulN_int (x y i k : Nat) (o : List Nat) (c : Nat) : ((at0 o (i + k) : Nat) : Int) + ((dig x i : Nat) : Int) * ((dig y k : Nat) : Int) + (c : Int) = ((mulN x y i k o c : Nat) : Int) := by
  have e : ((dig x i * dig y k : Nat) : Int) = ((dig x i : Nat) : Int) * ((dig y k : Nat) : Int) := Int.natCast_mul _ _
  unfold mulN; omega
theorem MulMid.step {x y i k c : Nat} {o : List Nat} (h : MulMid x y i k o c) (hi : i < Num.len x) (hk : k < Num.len y) :
    MulMid x y i (k + 1) (o.set (i + k) (mulN x y i k o c % 1000000000)) (mulN x y i k o c / 1000000000) := by
  have hs := mulIn_step h.inn (by rw [h.len]; omega)
  rw [B_eq] at hs
  exact ⟨by rw [List.length_set]; exact h.len, hs⟩
theorem MulMid.out {x y i c : Nat} {o : List Nat} (h : MulMid x y i (Num.len y) o c) (hi : i < Num.len x) : MulOut x y (i + 1) (o.set (i + Num.len y) c) :=
  ⟨by rw [List.length_set]; exact h.len, mulIn_at_len h.inn, mulIn_val h.inn (by rw [h.len]; omega)⟩
theorem MulMid.out0 {x y i : Nat} {o : List Nat} (h : MulMid x y i (Num.len y) o 0) : MulOut x y (i + 1) o := ⟨h.len, h.inn.lt, mulIn_done h.inn⟩
theorem MulMid.last {x y i c : Nat} {o : List Nat} (h : MulMid x y i (Num.len y) o c) : mulN x y i (Num.len y) o c % 1000000000 = c ∧ mulN x y i (Num.len y) o c / 1000000000 = 0 := by
  have hl := mulIn_last h.inn
  rw [B_eq] at hl
  exact hl
theorem at0_set (o : List Nat) (j v i : Nat) (h : j < o.length) : at0 (o.set j v) i = if i = j then v else at0 o i := getD_set o j i v h
theorem Blk.list_set {w : World} {g n : Nat} {o : List Nat} (h : Blk w g n (atI o)) (j v : Nat) (hj : j < o.length) (q : Int) (hq : q = (v : Int)) :
    Blk (w.setCell ⟨g, j, none⟩ (.int .i64 q)) g n (atI (o.set j v)) :=
  (Blk.set_ h j q).to fun i _ => by
    show (if i = j then q else atI o i) = ((at0 (o.set j v) i : Nat) : Int)
    rw [at0_set _ _ _ _ hj]
    split
    · exact hq
    · rfl
theorem MulOut.row {x y : Nat} {o : List Nat} (h : MulOut x y (Num.len x) o) {w : World} {g lo : Nat} (hB : Blk w g (Num.len x + Num.len y) (atI o)) (hg : lo ≤ g) :
    Row w lo (some ⟨g, 0, none⟩) (Num.len x + Num.len y) (Num.len x + Num.len y) (digI (x * y)) := by
  obtain ⟨e, _⟩ := mul_whole h.lt h.eq h.len
  refine (Blk.row hB hg).congr fun j hj => ?_
  show ((at0 o j : Nat) : Int) = ((dig (x * y) j : Nat) : Int)
  unfold at0
  rw [e, low_getD _ _ _ hj]
theorem makeN (c : Nat) (hc : c ≤ 1048576) (w : World) :
    (Instr.makeSlice 22 (.int .i64 (c : Int)) (.int .i64 (c : Int))).run Try.prog w = .ok (.slice (some ⟨w.heap.size, 0, none⟩) c c) (w.alloc (.cells (madeCells #[.int .i64 0] c) 3)) :=
  run_make_row' (P := Try.prog) 22 3 (.int .i64 0) 8 Try.underlying22 int_info rfl .i64 .i64 c (by omega) (by omega) w
theorem makeN2 (a b : Nat) (hc : a + b ≤ 1048576) (w : World) :
    (Instr.makeSlice 22 (.int .i64 ((a : Int) + (b : Int))) (.int .i64 ((a : Int) + (b : Int)))).run Try.prog w = .ok (.slice (some ⟨w.heap.size, 0, none⟩) (a + b) (a + b)) (w.alloc (.cells (madeCells #[.int .i64 0] (a + b)) 3)) :=
  makeN (a + b) hc w
theorem zeros_blk (w : World) (n : Nat) : Blk (w.alloc (.cells (madeCells #[.int .i64 0] n) 3)) w.heap.size n (atI (List.replicate n 0)) :=
  (World.rowIs_made _ _ _ _).congr fun j _ => by show _ = Value.int .i64 ((at0 _ j : Nat) : Int); rw [at0_zeros]; rfl

set_option maxRecDepth 100000 in
set_option maxHeartbeats 1000000 in
theorem l02Mul_any (A1 A2 : Option Addr) (c1 c2 x y lo1 lo2 : Nat) (w : World) (h1 : NatS w lo1 A1 c1 x) (h2 : NatS w lo2 A2 c2 y) (hx : len x ≤ 250) (hy : len y ≤ 250) :
    Calls Try.prog 111 #[.slice A1 (len x) c1, .slice A2 (len y) c2] w fun e w' => ∃ A c, e = .returned (.slice A (len (x * y)) c) ∧ NatS w' w.heap.size A c (x * y) ∧ Old w w' := by
  by_cases h0 : len x = 0 ∨ len y = 0
  · have e : x * y = 0 := by
      rcases h0 with h | h
      · rw [len_eq_zero.1 h, Nat.zero_mul]
      · rw [len_eq_zero.1 h, Nat.mul_zero]
    rw [e]
    rcases h0 with h | h
    · have hz : (((len x : Nat) : Int) == 0) = true := by simp [h]
      clear h e
      go_enter Try.func111, Try.ntmps111
      go_wp2
      go_ret
      exact ⟨none, 0, rfl, NatS.zero _ _ _ _, Old.refl w⟩
    · have hz : (((len y : Nat) : Int) == 0) = true := by simp [h]
      clear h e
      by_cases hz2 : (((len x : Nat) : Int) == 0) = true
      · go_enter Try.func111, Try.ntmps111
        go_wp2
        go_ret
        exact ⟨none, 0, rfl, NatS.zero _ _ _ _, Old.refl w⟩
      · have hz3 : (((len x : Nat) : Int) == 0) = false := by simpa using hz2
        clear hz2
        go_enter Try.func111, Try.ntmps111
        go_wp2
        go_ret
        exact ⟨none, 0, rfl, NatS.zero _ _ _ _, Old.refl w⟩
  · have hzx : (((len x : Nat) : Int) == 0) = false := by simp; omega
    have hzy : (((len y : Nat) : Int) == 0) = false := by simp; omega
    clear h0
    have hmk := fun (w : World) => makeN2 (len x) (len y) (by omega) w
    go_enter Try.func111, Try.ntmps111
    go_wp2
    clear hmk
    go_loopw [28] (fun ix wr => ∃ (i : Nat) (o : List Nat), i ≤ len x ∧ ix = .int .i64 (i : Int) ∧ MulOut x y i o ∧ Blk wr w.heap.size (len x + len y) (atI o) ∧ Old w wr) (fun ix _ => len x - (intOf ix).toNat)
    case atStart => exact ⟨0, _, Nat.zero_le _, rfl, mulOut_start x y, zeros_blk w _, (Old.refl w).alloc (Nat.le_refl _) _⟩
    case round =>
      obtain ⟨i, o, hi, rfl, hO, hB, hb⟩ := hrel
      have hs := hb.size
      by_cases hix : i < len x
      · obtain ⟨a1, o1, rfl, hc1⟩ := NatS.cell (NatS.below h1 hb) hix
        have b1 := dig_le x i
        go_wp2
        clear hc1
        obtain ⟨wo, hwo⟩ : ∃ wo : World, wo = wr := ⟨_, rfl⟩
        subst hwo
        go_loopw [8, 35] (fun cr ix wr => ∃ (k : Nat) (o : List Nat) (c : Nat), k ≤ len y ∧ ix = .int .i64 (k : Int) ∧ cr = .int .i64 (c : Int) ∧ MulMid x y i k o c ∧ Blk wr w.heap.size (len x + len y) (atI o) ∧ Old w wr) (fun _ ix _ => len y - (intOf ix).toNat)
        case atStart => exact ⟨0, o, 0, Nat.zero_le _, rfl, rfl, hO.mid, hB, hb⟩
        case round =>
          clear hB hO hb
          obtain ⟨k, o, c, hk, rfl, rfl, hM, hB, hb⟩ := hrel
          have hs := hb.size
          have b3 := hM.c_le
          by_cases hky : k < len y
          · obtain ⟨a2, o2, rfl, hc2⟩ := NatS.cell (NatS.below h2 hb) hky
            have hcell := Blk.cell hB (i + k) (by omega)
            have hfz := World.rowIs.frozen hB (i + k)
            have hcell' : wr.cell? ⟨w.heap.size, i + k, none⟩ = some (.int .i64 ((at0 o (i + k) : Nat) : Int)) := hcell
            clear hcell
            have b4 := hM.at_le (i + k)
            have p0 := dig_mul_ge x i y k
            have p1 := dig_mul_le x i y k
            have E := Lib.hid (mulN_int x y i k o c)
            go_wp2
            go_roundw
            case rel => exact ⟨k + 1, _, mulN x y i k o c / 1000000000, by omega, by go_num, congrArg (Value.int .i64) (by have := E.out; omega), hM.step hix hky, hB.list_set (i + k) (mulN x y i k o c % 1000000000) (by rw [hM.len]; omega) _ (by have := E.out; omega), hb.setCell (Nat.le_refl _) _⟩
            case measure => simp [intOf]; omega
          · have e : k = len y := by omega
            subst e
            have hcell := Blk.cell hB (i + len y) (by omega)
            have hfz := World.rowIs.frozen hB (i + len y)
            have hcell' : wr.cell? ⟨w.heap.size, i + len y, none⟩ = some (.int .i64 ((at0 o (i + len y) : Nat) : Int)) := hcell
            clear hcell
            go_wp2
            go_roundw
            case rel => exact ⟨i + 1, _, by omega, by go_num, hM.out hix, hB.list_set (i + len y) c (by rw [hM.len]; omega) _ rfl, hb.setCell (Nat.le_refl _) _⟩
            case measure => simp [intOf]; omega
      · have e : i = len x := by omega
        subst e
        have hrow := hO.row hB (Nat.le_refl _)
        have hml := mul_len_le x y
        go_wp2_with (go_at_call 142; refine (l02Trim_any _ _ _ (x * y) _ _ hrow hml (by omega)).mono ?_; rintro e w1 ⟨rfl, o1⟩)
        go_ret
        exact ⟨_, _, rfl, NatS.below (hrow.take hml) o1, Old.trans hb o1⟩
set_option maxRecDepth 100000 in
set_option maxHeartbeats 1000000 in
theorem natMul_any (A1 A2 : Option Addr) (c1 c2 x y lo1 lo2 : Nat) (w : World) (h1 : NatS w lo1 A1 c1 x) (h2 : NatS w lo2 A2 c2 y) (hx : len x ≤ 250) (hy : len y ≤ 250) :
    Calls Try.prog 148 #[.slice A1 (len x) c1, .slice A2 (len y) c2] w fun e w' => ∃ A c, e = .returned (.slice A (len (x * y)) c) ∧ NatS w' w.heap.size A c (x * y) ∧ Old w w' := by
  have hmk := fun (w : World) => makeN2 (len x) (len y) (by omega) w
  go_enter Try.func148, Try.ntmps148
  go_wp2
  clear hmk
  go_loopw [19] (fun ix wr => ∃ (i : Nat) (o : List Nat), i ≤ len x ∧ ix = .int .i64 (i : Int) ∧ MulOut x y i o ∧ Blk wr w.heap.size (len x + len y) (atI o) ∧ Old w wr) (fun ix _ => len x - (intOf ix).toNat)
  case atStart => exact ⟨0, _, Nat.zero_le _, rfl, mulOut_start x y, zeros_blk w _, (Old.refl w).alloc (Nat.le_refl _) _⟩
  case round =>
    obtain ⟨i, o, hi, rfl, hO, hB, hb⟩ := hrel
    have hs := hb.size
    by_cases hix : i < len x
    · obtain ⟨a1, o1, rfl, hc1⟩ := NatS.cell (NatS.below h1 hb) hix
      have b1 := dig_le x i
      go_wp2
      clear hc1
      obtain ⟨wo, hwo⟩ : ∃ wo : World, wo = wr := ⟨_, rfl⟩
      subst hwo
      go_loopw [8, 9] (fun cr ix wr => ∃ (k : Nat) (o : List Nat) (c : Nat), ix = .int .i64 (k : Int) ∧ cr = .int .i64 (c : Int) ∧ ((k ≤ len y ∧ MulMid x y i k o c) ∨ (k = len y + 1 ∧ c = 0 ∧ MulOut x y (i + 1) o)) ∧ Blk wr w.heap.size (len x + len y) (atI o) ∧ Old w wr) (fun _ ix _ => len y + 1 - (intOf ix).toNat)
      case atStart => exact ⟨0, o, 0, rfl, rfl, .inl ⟨Nat.zero_le _, hO.mid⟩, hB, hb⟩
      case round =>
        clear hB hO hb
        obtain ⟨k, o, c, rfl, rfl, hM, hB, hb⟩ := hrel
        have hs := hb.size
        rcases hM with ⟨hk, hM⟩ | ⟨hk, hc, hO⟩
        · have b3 := hM.c_le
          have p0 := dig_mul_ge x i y k
          have p1 := dig_mul_le x i y k
          have b4 := hM.at_le (i + k)
          have E := Lib.hid (mulN_int x y i k o c)
          by_cases hky : k < len y
          · have hcell := Blk.cell hB (i + k) (by omega)
            have hfz := World.rowIs.frozen hB (i + k)
            have hcell' : wr.cell? ⟨w.heap.size, i + k, none⟩ = some (.int .i64 ((at0 o (i + k) : Nat) : Int)) := hcell
            clear hcell
            go_wp2
            go_quiet ((go_at_call 165; exact Calls.quiet_of_same (limb_q A2 c2 y lo2 k _ ((NatS.below h2 hb).drewN _) (by omega) (by omega))))
            go_wp2
            go_roundw
            case rel => exact ⟨k + 1, _, mulN x y i k o c / 1000000000, by go_num, congrArg (Value.int .i64) (by have := E.out; omega), .inl ⟨by omega, hM.step hix hky⟩, Blk.list_set (Blk.drewN hB _) (i + k) (mulN x y i k o c % 1000000000) (by rw [hM.len]; omega) _ (by have := E.out; omega), (below_drewN hb _).setCell (Nat.le_refl _) _⟩
            case measure => simp [intOf]; omega
          · have e : k = len y := by omega
            by_cases hc0 : 0 < c
            · have hcell := Blk.cell hB (i + k) (by omega)
              have hfz := World.rowIs.frozen hB (i + k)
              have hcell' : wr.cell? ⟨w.heap.size, i + k, none⟩ = some (.int .i64 ((at0 o (i + k) : Nat) : Int)) := hcell
              clear hcell
              have He := Lib.hid e
              clear e
              have hml : mulN x y i k o c % 1000000000 = c ∧ mulN x y i k o c / 1000000000 = 0 := by have := He.out; subst this; exact hM.last
              have Hml := Lib.hid hml
              clear hml
              go_wp2
              go_quiet ((go_at_call 165; exact Calls.quiet_of_same (limb_q A2 c2 y lo2 k _ ((NatS.below h2 hb).drewN _) (by omega) (by omega))))
              go_wp2
              go_roundw
              case rel => exact ⟨k + 1, o.set (i + k) c, 0, by go_num, congrArg (Value.int .i64) (by have := E.out; have := Hml.out.2; omega), .inr ⟨by have := He.out; omega, rfl, by have := He.out; subst this; exact hM.out hix⟩, Blk.list_set (Blk.drewN hB _) (i + k) c (by rw [hM.len]; omega) _ (by have := E.out; have := Hml.out.1; omega), (below_drewN hb _).setCell (Nat.le_refl _) _⟩
              case measure => simp [intOf]; have := He.out; omega
            · have e0 : c = 0 := by omega
              subst e0
              clear E p0 p1 b4
              subst e
              go_wp2
              go_roundw
              case rel => exact ⟨i + 1, _, by omega, by go_num, hM.out0, hB, hb⟩
              case measure => simp [intOf]; omega
        · subst hk
          subst hc
          go_wp2
          go_roundw
          case rel => exact ⟨i + 1, _, by omega, by go_num, hO, hB, hb⟩
          case measure => simp [intOf]; omega
    · have e : i = len x := by omega
      subst e
      have hrow := hO.row hB (Nat.le_refl _)
      have hml := mul_len_le x y
      go_wp2_with (go_at_call 162; refine (trimmed_any _ _ _ (x * y) _ _ hrow hml (by omega)).mono ?_; rintro e w1 ⟨rfl, o1⟩)
      go_ret
      exact ⟨_, _, rfl, NatS.below (hrow.take hml) o1, Old.trans hb o1⟩
end Go.Proofs.Ytnkeenejcpkelaa
