import Derived.BigQuiet
import Derived.ChangeOld
import Derived.Deep.DeepCutAuto
import Derived.Deep.DrawnRows
import Derived.Deep.OwnRows
import Derived.Deep.QuietTactic
import Derived.Deep.RegionHeld3
import Derived.Deep.RegionWith
import Derived.Deep.Upon
import Derived.IntWalk
import Derived.JoinedOf
import Derived.KernelRfl
import Derived.Laws.BitsLemmas
import Derived.Laws.FloatArith
import Derived.Laws.IdiomStrings
import Derived.Lib.AppendIntMem
import Derived.Lib.AppendStr
import Derived.Lib.AtoiAllCases
import Derived.Lib.AtoiErrMem
import Derived.Lib.Bytealg
import Derived.Lib.ConvBytes
import Derived.Lib.Hide
import Derived.Lib.IndexLaws
import Derived.Lib.ItoaLen
import Derived.Lib.ItoaNum
import Derived.Lib.Join
import Derived.Lib.SmallJoins
import Derived.Lib.Strings
import Derived.Lib.UnsafeStr
import Derived.OpenShut
import Derived.ProofKit
import Derived.ShutString
import Derived.Test.YtgchbbjhdeobpaaGreatDoorRows
import Derived.Test.YtgchbbjhdeobpaaGreatDoorShelf
import Derived.WalkKit
import Derived.WalkLawsBesides
import Derived.WalkSpells
import Ieee.Arith
import Derived.Test.YtgchbbjhdeobpaaGreatDoorW1
import Derived.Test.YtgchbbjhdeobpaaGreatDoorW2
import Derived.Test.YtgchbbjhdeobpaaGreatDoorW3
import Derived.Test.YtgchbbjhdeobpaaGreatDoorW4
import Derived.Test.YtgchbbjhdeobpaaGreatDoorW5
import Derived.Test.YtgchbbjhdeobpaaGreatDoorW6
import Derived.Test.YtgchbbjhdeobpaaGreatDoorW7
import Derived.Test.YtgchbbjhdeobpaaGreatDoorW8
import Derived.Test.YtgchbbjhdeobpaaGreatDoorW9
import Derived.Test.YtgchbbjhdeobpaaGreatDoorW10
import Derived.Test.YtgchbbjhdeobpaaGreatDoorW11
import Derived.Test.YtgchbbjhdeobpaaGreatDoorW12
import Derived.Test.YtgchbbjhdeobpaaGreatDoorW13
import Derived.Test.YtgchbbjhdeobpaaGreatDoorW14
import Derived.Test.YtgchbbjhdeobpaaGreatDoorW15
import Derived.Test.YtgchbbjhdeobpaaGreatDoorW17
import Derived.Test.YtgchbbjhdeobpaaGreatDoorW19
import Derived.Test.YtgchbbjhdeobpaaGreatDoorW20
import Derived.Test.YtgchbbjhdeobpaaGreatDoorW21
import Derived.Test.YtgchbbjhdeobpaaGreatDoorW22
import Derived.Test.YtgchbbjhdeobpaaGreatDoorW23
/- What the claim's proof reaches of: ParRat, RatsV. -/
namespace Go.Proofs.YtgchbbjhdeobpaaGreatDoor
set_option linter.unusedVariables false
open Go.RowKit Num
theorem textQ_neq {a b : ByteArray} (h : ¬ a = b) : (!a.toList == b.toList) = true := by
  rw [ByteArray.toList_eq, ByteArray.toList_eq]
  simp only [Bool.not_eq_true', beq_eq_false_iff_ne]
  exact fun e => h (ByteArray.ext (Array.ext' e))
theorem one_len : len 1 = 1 := len_eq (by rw [Nat.pow_one, B_eq]; omega) (fun _ => by rw [Nat.sub_self, Nat.pow_zero]; omega)
theorem one_box {w : World} {g lo : Nat} (h : Bx w g #[.int .i64 1]) (hl : lo ≤ g) : NatS w lo (some ⟨g, 0, none⟩) 1 1 := by
  refine ⟨by rw [one_len]; omega, fun _ => ⟨g, 0, rfl, hl, h.lt, h.frozen, fun j hj => ?_⟩⟩
  rw [one_len] at hj
  obtain rfl : j = 0 := by omega
  have e : digI 1 0 = 1 := by unfold digI; rw [dig_self (by omega)]; rfl
  rw [e]
  exact h.cell 0 rfl
theorem wpNamed {P : Program} {c : Code} {Q : Exit → Act → World → Prop} {a : Act} {w : World} (h : ∀ x, x = w → c.wp P Q a x) : c.wp P Q a w := h w rfl
theorem Lim.off {hi g n : Nat} {A : Option Addr} (h : Lim hi A n) (hg : hi ≤ g) : Off g A n := fun h0 a ea e => by have := h h0 a ea; omega
theorem Off.one {g g' n : Nat} (h : ¬ g' = g) : Off g (some (⟨g', 0, none⟩ : Addr)) n := fun _ a ea e => by injection ea with ea; subst ea; exact h e
theorem Bx.newAt3 {w : World} {g : Nat} {cs : Array Value} {t : TypeId} (hg : g = w.heap.size) : Bx (w.alloc (.cells cs t)) g cs := hg ▸ Bx.new w cs t
theorem Lim.one {g hi : Nat} (h : g < hi) (n : Nat) : Lim hi (some (⟨g, 0, none⟩ : Addr)) n := fun _ a e => by injection e with e; subst e; exact h
/-- The call returned the fraction v and the bool b, as memory that is not older than lo. -/
def RetRB (e : Ending) (w : World) (lo : Nat) (v : Fr) (b : Bool) : Prop := ∃ z d A1 c1 A2 c2, v = (z, d) ∧ e = .returned (.tuple #[.agg #[.bool (sgnZ z), .slice A1 (len (magZ z)) c1, .slice A2 (len d) c2], .bool b]) ∧ NatS w lo A1 c1 (magZ z) ∧ NatS w lo A2 c2 d ∧ Apart A1 (len (magZ z)) A2 (len d)
theorem RetRB.zero {e : Ending} {w : World} {lo : Nat} (h : e = .returned (.tuple #[.agg #[.bool false, .slice none 0 0, .slice none 0 0], .bool false])) : RetRB e w lo (0, 0) false :=
  ⟨0, 0, none, 0, none, 0, rfl, h, Row.zero _ _ _ _ _, Row.zero _ _ _ _ _, Apart.nil _ _ _⟩
theorem implBig_c (s : ByteArray) (z : Int) (t : Bool) (w : World) (b : s.size ≤ maxLen) (hz : zParseBigInt s = z) (ht : rParseBigInt1 s = t) :
    Calls Tryz.prog 26 #[.string s] w fun e w' => RetBB e w' w.heap.size z t ∧ Old w w' := by
  subst hz
  subst ht
  exact impl_ParseBigInt s w b
theorem implNat_c (s : ByteArray) (d : Nat) (t : Bool) (w : World) (b : s.size ≤ maxLen) (hd : rParseNat s = d) (ht : rParseNat1 s = t) :
    Calls Tryz.prog 27 #[.string s] w fun e w' => RetNB e w' w.heap.size d t ∧ Old w w' := by
  subst hd
  subst ht
  exact impl_ParseNat s w b
set_option maxRecDepth 100000 in
set_option maxHeartbeats 8000000 in
theorem impl_ParseRat_one_no1 (s : ByteArray) (z : Int) (w : World) (b : s.size ≤ 1048576) (K : KT w) (b1 : Bool) (hidx : Lib.indexByte s.data.toList 47 = -1) (hz : zParseBigInt s = z) (ht : rParseBigInt1 s = b1) (k1 : b1 = false) :
    Calls Tryz.prog 6 #[.string s] w fun e w' => RetRB e w' w.heap.size (0, 0) false ∧ Old w w' := by
  subst k1
  have hlz : len (magZ z) ≤ 60 := by rw [← hz]; exact zParseBigInt_len _
  have HZ := Lib.hid hz
  have HT := Lib.hid ht
  clear hz ht
  have hld : len 1 ≤ 60 := by rw [one_len]; omega
  have HI := Lib.hid hidx
  clear hidx
  have HP : Hid (s.size ≤ maxLen) := Lib.hid (by unfold maxLen; omega)
  have O : Old w (w.alloc (.cells #[.bool false, .slice none 0 0, .slice none 0 0] 26)) := oldB
  have B_r : Bx (w.alloc (.cells #[.bool false, .slice none 0 0, .slice none 0 0] 26)) (w.heap.size) #[.bool false, .slice none 0 0, .slice none 0 0] := by have h := (Bx.new w #[.bool false, .slice none 0 0, .slice none 0 0] 26); simpa using h
  have ze : w.heap.size + 1 ≤ (w.alloc (.cells #[.bool false, .slice none 0 0, .slice none 0 0] 26)).heap.size := (by simp)
  go_enter Tryz.func6, Tryz.ntmps6
  go_wp2_with fail
  refine callsNamed ?_
  intro p1 hp
  have O' : Old w p1 := (by rw [hp]; exact Below.trans (b := (w.alloc (.cells #[.bool false, .slice none 0 0, .slice none 0 0] 26))) O oldB)
  replace B_r : Bx p1 (w.heap.size) #[.bool false, .slice none 0 0, .slice none 0 0] := (by rw [hp]; repeat' (first | (with_reducible exact B_r) | (with_reducible refine Bx.alloc ?_ _) | (with_reducible refine Bx.drewN ?_ _) | (with_reducible refine Bx.drew ?_) | refine Bx.far ?_ (by first | assumption | (simp <;> done) | (simp; omega) | omega) _))
  have zp1 : (w.alloc (.cells #[.bool false, .slice none 0 0, .slice none 0 0] 26)).heap.size ≤ p1.heap.size := (by rw [hp]; exact leA)
  clear hp O
  have O := O'
  clear O'
  refine (cut_no s 47 _ HI.out).mono ?_
  rintro e w1 ⟨rfl, o1⟩
  replace B_r := Bx.old B_r o1
  replace O := Old.trans O o1
  have zw1 := o1.size
  have q_r_0 := B_r.cell 0 rfl
  have q_r_1 := B_r.cell 1 rfl
  have q_r_2 := B_r.cell 2 rfl
  have f_r_0 := B_r.frozen 0
  have f_r_1 := B_r.frozen 1
  have f_r_2 := B_r.frozen 2
  have q_r := B_r.lt
  go_wp2_with fail
  refine callsNamed ?_
  intro p2 hp
  clear q_r_0 q_r_1 q_r_2 f_r_0 f_r_1 f_r_2 q_r
  have O' : Old w p2 := (by rw [hp]; exact Below.trans (b := w1) O oldB)
  replace B_r : Bx p2 (w.heap.size) #[.bool false, .slice none 0 0, .slice none 0 0] := (by rw [hp]; repeat' (first | (with_reducible exact B_r) | (with_reducible refine Bx.alloc ?_ _) | (with_reducible refine Bx.drewN ?_ _) | (with_reducible refine Bx.drew ?_) | refine Bx.far ?_ (by first | assumption | (simp <;> done) | (simp; omega) | omega) _))
  have zp2 : w1.heap.size ≤ p2.heap.size := (by rw [hp]; exact leA)
  clear hp O
  have O := O'
  clear O'
  refine (implBig_c s z false _ HP.out HZ.out HT.out).mono ?_
  rintro e w2 ⟨⟨A1, c1, rfl, r1⟩, o2⟩
  replace B_r := Bx.old B_r o2
  replace O := Old.trans O o2
  have zw2 := o2.size
  replace r1 := Row.more (lo' := p2.heap.size) r1 leA
  have lim_r1 := Row.lim r1
  have q_r_0 := B_r.cell 0 rfl
  have q_r_1 := B_r.cell 1 rfl
  have q_r_2 := B_r.cell 2 rfl
  have f_r_0 := B_r.frozen 0
  have f_r_1 := B_r.frozen 1
  have f_r_2 := B_r.frozen 2
  have q_r := B_r.lt
  go_upto_region 7 with fail
  refine wpNamed ?_
  intro p3 hp
  clear q_r_0 q_r_1 q_r_2 f_r_0 f_r_1 f_r_2 q_r
  have O' : Old w p3 := (by rw [hp]; exact Below.trans (b := w2) O oldB)
  replace B_r : Bx p3 (w.heap.size) #[.bool false, .slice none 0 0, .slice none 0 0] := (by rw [hp]; repeat' (first | (with_reducible exact B_r) | (with_reducible refine Bx.alloc ?_ _) | (with_reducible refine Bx.drewN ?_ _) | (with_reducible refine Bx.drew ?_) | refine Bx.far ?_ (by first | assumption | (simp <;> done) | (simp; omega) | omega) _))
  replace r1 := Row.at r1 p3 (by rw [hp]; repeat' (first | (with_reducible exact r1) | (with_reducible refine Row.alloc' ?_ _) | (with_reducible refine Row.drewN ?_ _) | (with_reducible refine Row.drew' ?_) | refine Row.far_off ?_ (by assumption) _ | refine Row.far_set ?_ (by first | (simp <;> done) | (simp; omega) | omega) _))
  have B_n : Bx p3 (w2.heap.size) #[.bool (sgnZ z), .slice A1 (len (magZ z)) c1] := (by rw [hp]; repeat' (first | (exact Bx.newAt3 (by first | rfl | (simp <;> done))) | (exact Bx.put2 (Bx.newAt3 (by first | rfl | (simp <;> done))) _ _) | (with_reducible refine Bx.alloc ?_ _) | (with_reducible refine Bx.drewN ?_ _) | (with_reducible refine Bx.drew ?_) | refine Bx.far ?_ (by first | assumption | (simp <;> done) | (simp; omega) | omega) _))
  have lt_n := B_n.lt
  have ne_n_r : ¬ (w2.heap.size = w.heap.size) := by omega
  have en_n_r : ¬ (w.heap.size = w2.heap.size) := by omega
  have B_l : Bx p3 (w2.heap.size + 1) #[.int .i64 1] := (by rw [hp]; repeat' (first | (exact Bx.newAt3 (by first | rfl | (simp <;> done))) | (with_reducible refine Bx.alloc ?_ _) | (with_reducible refine Bx.drewN ?_ _) | (with_reducible refine Bx.drew ?_) | refine Bx.far ?_ (by first | assumption | (simp <;> done) | (simp; omega) | omega) _))
  have lt_l := B_l.lt
  have ne_l_r : ¬ (w2.heap.size + 1 = w.heap.size) := by omega
  have en_l_r : ¬ (w.heap.size = w2.heap.size + 1) := by omega
  have ne_l_n : ¬ (w2.heap.size + 1 = w2.heap.size) := by omega
  have en_l_n : ¬ (w2.heap.size = w2.heap.size + 1) := by omega
  have B_q : Bx p3 (w2.heap.size + 1 + 1) #[.bool (sgnZ z), .slice A1 (len (magZ z)) c1, .slice (some ⟨w2.heap.size + 1, 0, none⟩) (len 1) 1] := (by rw [hp, one_len]; repeat' (first | (exact Bx.newAt3 (by first | rfl | (simp <;> done))) | (exact Bx.put3 (Bx.newAt3 (by first | rfl | (simp <;> done))) _ _ _) | (with_reducible refine Bx.alloc ?_ _) | (with_reducible refine Bx.drewN ?_ _) | (with_reducible refine Bx.drew ?_) | refine Bx.far ?_ (by first | assumption | (simp <;> done) | (simp; omega) | omega) _))
  have lt_q := B_q.lt
  have ne_q_r : ¬ (w2.heap.size + 1 + 1 = w.heap.size) := by omega
  have en_q_r : ¬ (w.heap.size = w2.heap.size + 1 + 1) := by omega
  have ne_q_n : ¬ (w2.heap.size + 1 + 1 = w2.heap.size) := by omega
  have en_q_n : ¬ (w2.heap.size = w2.heap.size + 1 + 1) := by omega
  have ne_q_l : ¬ (w2.heap.size + 1 + 1 = w2.heap.size + 1) := by omega
  have en_q_l : ¬ (w2.heap.size + 1 = w2.heap.size + 1 + 1) := by omega
  have zp3 : w2.heap.size ≤ p3.heap.size := (by rw [hp]; exact leA)
  clear hp O
  have O := O'
  clear O'
  have rl := one_box B_l (lo := w2.heap.size) (by omega)
  have q_r_0 := B_r.cell 0 rfl
  have q_r_1 := B_r.cell 1 rfl
  have q_r_2 := B_r.cell 2 rfl
  have f_r_0 := B_r.frozen 0
  have f_r_1 := B_r.frozen 1
  have f_r_2 := B_r.frozen 2
  have q_r := B_r.lt
  have q_n_0 := B_n.cell 0 rfl
  have q_n_1 := B_n.cell 1 rfl
  have f_n_0 := B_n.frozen 0
  have f_n_1 := B_n.frozen 1
  have q_n := B_n.lt
  have q_l_0 := B_l.cell 0 rfl
  have f_l_0 := B_l.frozen 0
  have q_l := B_l.lt
  have q_q_0 := B_q.cell 0 rfl
  have q_q_1 := B_q.cell 1 rfl
  have q_q_2 := B_q.cell 2 rfl
  have f_q_0 := B_q.frozen 0
  have f_q_1 := B_q.frozen 1
  have f_q_2 := B_q.frozen 2
  have q_q := B_q.lt
  go_wp2
  refine bodyPost_ret (v := .tuple #[.agg #[.bool false, .slice none 0 0, .slice none 0 0], .bool false]) (by simp [results, Tryz.results6, go_sem, q_r_0, q_r_1, q_r_2]) rfl ⟨RetRB.zero rfl, Below.trans (b := p3) O oldB⟩
set_option maxRecDepth 100000 in
set_option maxHeartbeats 8000000 in
theorem impl_ParseRat_one_no3 (s : ByteArray) (z : Int) (w : World) (b : s.size ≤ 1048576) (K : KT w) (b1 : Bool) (hidx : Lib.indexByte s.data.toList 47 = -1) (hz : zParseBigInt s = z) (ht : rParseBigInt1 s = b1) (k1 : b1 = true) (k3 : ¬ okR (sgnZ z) (len (magZ z)) (digI (magZ z)) (len 1) (digI 1)) :
    Calls Tryz.prog 6 #[.string s] w fun e w' => RetRB e w' w.heap.size (0, 0) false ∧ Old w w' := by
  subst k1
  have hlz : len (magZ z) ≤ 60 := by rw [← hz]; exact zParseBigInt_len _
  have HZ := Lib.hid hz
  have HT := Lib.hid ht
  clear hz ht
  have hld : len 1 ≤ 60 := by rw [one_len]; omega
  have HI := Lib.hid hidx
  clear hidx
  have HP : Hid (s.size ≤ maxLen) := Lib.hid (by unfold maxLen; omega)
  have K3 := Lib.hid k3
  clear k3
  have O : Old w (w.alloc (.cells #[.bool false, .slice none 0 0, .slice none 0 0] 26)) := oldB
  have B_r : Bx (w.alloc (.cells #[.bool false, .slice none 0 0, .slice none 0 0] 26)) (w.heap.size) #[.bool false, .slice none 0 0, .slice none 0 0] := by have h := (Bx.new w #[.bool false, .slice none 0 0, .slice none 0 0] 26); simpa using h
  have ze : w.heap.size + 1 ≤ (w.alloc (.cells #[.bool false, .slice none 0 0, .slice none 0 0] 26)).heap.size := (by simp)
  go_enter Tryz.func6, Tryz.ntmps6
  go_wp2_with fail
  refine callsNamed ?_
  intro p1 hp
  have O' : Old w p1 := (by rw [hp]; exact Below.trans (b := (w.alloc (.cells #[.bool false, .slice none 0 0, .slice none 0 0] 26))) O oldB)
  replace B_r : Bx p1 (w.heap.size) #[.bool false, .slice none 0 0, .slice none 0 0] := (by rw [hp]; repeat' (first | (with_reducible exact B_r) | (with_reducible refine Bx.alloc ?_ _) | (with_reducible refine Bx.drewN ?_ _) | (with_reducible refine Bx.drew ?_) | refine Bx.far ?_ (by first | assumption | (simp <;> done) | (simp; omega) | omega) _))
  have zp1 : (w.alloc (.cells #[.bool false, .slice none 0 0, .slice none 0 0] 26)).heap.size ≤ p1.heap.size := (by rw [hp]; exact leA)
  clear hp O
  have O := O'
  clear O'
  refine (cut_no s 47 _ HI.out).mono ?_
  rintro e w1 ⟨rfl, o1⟩
  replace B_r := Bx.old B_r o1
  replace O := Old.trans O o1
  have zw1 := o1.size
  have q_r_0 := B_r.cell 0 rfl
  have q_r_1 := B_r.cell 1 rfl
  have q_r_2 := B_r.cell 2 rfl
  have f_r_0 := B_r.frozen 0
  have f_r_1 := B_r.frozen 1
  have f_r_2 := B_r.frozen 2
  have q_r := B_r.lt
  go_wp2_with fail
  refine callsNamed ?_
  intro p2 hp
  clear q_r_0 q_r_1 q_r_2 f_r_0 f_r_1 f_r_2 q_r
  have O' : Old w p2 := (by rw [hp]; exact Below.trans (b := w1) O oldB)
  replace B_r : Bx p2 (w.heap.size) #[.bool false, .slice none 0 0, .slice none 0 0] := (by rw [hp]; repeat' (first | (with_reducible exact B_r) | (with_reducible refine Bx.alloc ?_ _) | (with_reducible refine Bx.drewN ?_ _) | (with_reducible refine Bx.drew ?_) | refine Bx.far ?_ (by first | assumption | (simp <;> done) | (simp; omega) | omega) _))
  have zp2 : w1.heap.size ≤ p2.heap.size := (by rw [hp]; exact leA)
  clear hp O
  have O := O'
  clear O'
  refine (implBig_c s z true _ HP.out HZ.out HT.out).mono ?_
  rintro e w2 ⟨⟨A1, c1, rfl, r1⟩, o2⟩
  replace B_r := Bx.old B_r o2
  replace O := Old.trans O o2
  have zw2 := o2.size
  replace r1 := Row.more (lo' := p2.heap.size) r1 leA
  have lim_r1 := Row.lim r1
  have q_r_0 := B_r.cell 0 rfl
  have q_r_1 := B_r.cell 1 rfl
  have q_r_2 := B_r.cell 2 rfl
  have f_r_0 := B_r.frozen 0
  have f_r_1 := B_r.frozen 1
  have f_r_2 := B_r.frozen 2
  have q_r := B_r.lt
  go_wp2_with fail
  refine callsNamed ?_
  intro p3 hp
  clear q_r_0 q_r_1 q_r_2 f_r_0 f_r_1 f_r_2 q_r
  have O' : Old w p3 := (by rw [hp]; exact Below.trans (b := w2) O oldB)
  replace B_r : Bx p3 (w.heap.size) #[.bool false, .slice none 0 0, .slice none 0 0] := (by rw [hp]; repeat' (first | (with_reducible exact B_r) | (with_reducible refine Bx.alloc ?_ _) | (with_reducible refine Bx.drewN ?_ _) | (with_reducible refine Bx.drew ?_) | refine Bx.far ?_ (by first | assumption | (simp <;> done) | (simp; omega) | omega) _))
  replace r1 := Row.at r1 p3 (by rw [hp]; repeat' (first | (with_reducible exact r1) | (with_reducible refine Row.alloc' ?_ _) | (with_reducible refine Row.drewN ?_ _) | (with_reducible refine Row.drew' ?_) | refine Row.far_off ?_ (by assumption) _ | refine Row.far_set ?_ (by first | (simp <;> done) | (simp; omega) | omega) _))
  have B_n : Bx p3 (w2.heap.size) #[.bool (sgnZ z), .slice A1 (len (magZ z)) c1] := (by rw [hp]; repeat' (first | (exact Bx.newAt3 (by first | rfl | (simp <;> done))) | (exact Bx.put2 (Bx.newAt3 (by first | rfl | (simp <;> done))) _ _) | (with_reducible refine Bx.alloc ?_ _) | (with_reducible refine Bx.drewN ?_ _) | (with_reducible refine Bx.drew ?_) | refine Bx.far ?_ (by first | assumption | (simp <;> done) | (simp; omega) | omega) _))
  have lt_n := B_n.lt
  have ne_n_r : ¬ (w2.heap.size = w.heap.size) := by omega
  have en_n_r : ¬ (w.heap.size = w2.heap.size) := by omega
  have B_l : Bx p3 (w2.heap.size + 1) #[.int .i64 1] := (by rw [hp]; repeat' (first | (exact Bx.newAt3 (by first | rfl | (simp <;> done))) | (with_reducible refine Bx.alloc ?_ _) | (with_reducible refine Bx.drewN ?_ _) | (with_reducible refine Bx.drew ?_) | refine Bx.far ?_ (by first | assumption | (simp <;> done) | (simp; omega) | omega) _))
  have lt_l := B_l.lt
  have ne_l_r : ¬ (w2.heap.size + 1 = w.heap.size) := by omega
  have en_l_r : ¬ (w.heap.size = w2.heap.size + 1) := by omega
  have ne_l_n : ¬ (w2.heap.size + 1 = w2.heap.size) := by omega
  have en_l_n : ¬ (w2.heap.size = w2.heap.size + 1) := by omega
  have B_q : Bx p3 (w2.heap.size + 1 + 1) #[.bool (sgnZ z), .slice A1 (len (magZ z)) c1, .slice (some ⟨w2.heap.size + 1, 0, none⟩) (len 1) 1] := (by rw [hp, one_len]; repeat' (first | (exact Bx.newAt3 (by first | rfl | (simp <;> done))) | (exact Bx.put3 (Bx.newAt3 (by first | rfl | (simp <;> done))) _ _ _) | (with_reducible refine Bx.alloc ?_ _) | (with_reducible refine Bx.drewN ?_ _) | (with_reducible refine Bx.drew ?_) | refine Bx.far ?_ (by first | assumption | (simp <;> done) | (simp; omega) | omega) _))
  have lt_q := B_q.lt
  have ne_q_r : ¬ (w2.heap.size + 1 + 1 = w.heap.size) := by omega
  have en_q_r : ¬ (w.heap.size = w2.heap.size + 1 + 1) := by omega
  have ne_q_n : ¬ (w2.heap.size + 1 + 1 = w2.heap.size) := by omega
  have en_q_n : ¬ (w2.heap.size = w2.heap.size + 1 + 1) := by omega
  have ne_q_l : ¬ (w2.heap.size + 1 + 1 = w2.heap.size + 1) := by omega
  have en_q_l : ¬ (w2.heap.size + 1 = w2.heap.size + 1 + 1) := by omega
  have zp3 : w2.heap.size ≤ p3.heap.size := (by rw [hp]; exact leA)
  clear hp O
  have O := O'
  clear O'
  have rl := one_box B_l (lo := w2.heap.size) (by omega)
  refine (plain_to (by rw [rRatOk_no K3.out]) (impl_RatOk (sgnZ z) A1 (len (magZ z)) c1 _ (digI (magZ z)) (some ⟨w2.heap.size + 1, 0, none⟩) (len 1) 1 _ (digI 1) _ r1 rl (by omega) (by omega))).mono ?_
  rintro e w3 ⟨rfl, o3⟩
  replace B_r := Bx.old B_r o3
  replace B_n := Bx.old B_n o3
  replace B_l := Bx.old B_l o3
  replace B_q := Bx.old B_q o3
  replace r1 := Row.below r1 o3 (Nat.le_refl _)
  replace rl := Row.below rl o3 (Nat.le_refl _)
  replace O := Old.trans O o3
  have zw3 := o3.size
  have q_r_0 := B_r.cell 0 rfl
  have q_r_1 := B_r.cell 1 rfl
  have q_r_2 := B_r.cell 2 rfl
  have f_r_0 := B_r.frozen 0
  have f_r_1 := B_r.frozen 1
  have f_r_2 := B_r.frozen 2
  have q_r := B_r.lt
  have q_n_0 := B_n.cell 0 rfl
  have q_n_1 := B_n.cell 1 rfl
  have f_n_0 := B_n.frozen 0
  have f_n_1 := B_n.frozen 1
  have q_n := B_n.lt
  have q_l_0 := B_l.cell 0 rfl
  have f_l_0 := B_l.frozen 0
  have q_l := B_l.lt
  have q_q_0 := B_q.cell 0 rfl
  have q_q_1 := B_q.cell 1 rfl
  have q_q_2 := B_q.cell 2 rfl
  have f_q_0 := B_q.frozen 0
  have f_q_1 := B_q.frozen 1
  have f_q_2 := B_q.frozen 2
  have q_q := B_q.lt
  go_wp2
  refine bodyPost_ret (v := .tuple #[.agg #[.bool false, .slice none 0 0, .slice none 0 0], .bool false]) (by simp [results, Tryz.results6, go_sem, q_r_0, q_r_1, q_r_2]) rfl ⟨RetRB.zero rfl, Below.trans (b := w3) O oldB⟩
set_option maxRecDepth 100000 in
set_option maxHeartbeats 8000000 in
theorem impl_ParseRat_one_no4 (s : ByteArray) (z : Int) (w : World) (b : s.size ≤ 1048576) (K : KT w) (b1 : Bool) (hidx : Lib.indexByte s.data.toList 47 = -1) (hz : zParseBigInt s = z) (ht : rParseBigInt1 s = b1) (k1 : b1 = true) (k3 : okR (sgnZ z) (len (magZ z)) (digI (magZ z)) (len 1) (digI 1)) (k4 : ¬ txQ z 1 = s) :
    Calls Tryz.prog 6 #[.string s] w fun e w' => RetRB e w' w.heap.size (0, 0) false ∧ Old w w' := by
  subst k1
  have hlz : len (magZ z) ≤ 60 := by rw [← hz]; exact zParseBigInt_len _
  have HZ := Lib.hid hz
  have HT := Lib.hid ht
  clear hz ht
  have hld : len 1 ≤ 60 := by rw [one_len]; omega
  have HI := Lib.hid hidx
  clear hidx
  have HP : Hid (s.size ≤ maxLen) := Lib.hid (by unfold maxLen; omega)
  have K3 := Lib.hid k3
  clear k3
  have hs3 := textQ_neq k4
  clear k4
  have O : Old w (w.alloc (.cells #[.bool false, .slice none 0 0, .slice none 0 0] 26)) := oldB
  have B_r : Bx (w.alloc (.cells #[.bool false, .slice none 0 0, .slice none 0 0] 26)) (w.heap.size) #[.bool false, .slice none 0 0, .slice none 0 0] := by have h := (Bx.new w #[.bool false, .slice none 0 0, .slice none 0 0] 26); simpa using h
  have ze : w.heap.size + 1 ≤ (w.alloc (.cells #[.bool false, .slice none 0 0, .slice none 0 0] 26)).heap.size := (by simp)
  go_enter Tryz.func6, Tryz.ntmps6
  go_wp2_with fail
  refine callsNamed ?_
  intro p1 hp
  have O' : Old w p1 := (by rw [hp]; exact Below.trans (b := (w.alloc (.cells #[.bool false, .slice none 0 0, .slice none 0 0] 26))) O oldB)
  replace B_r : Bx p1 (w.heap.size) #[.bool false, .slice none 0 0, .slice none 0 0] := (by rw [hp]; repeat' (first | (with_reducible exact B_r) | (with_reducible refine Bx.alloc ?_ _) | (with_reducible refine Bx.drewN ?_ _) | (with_reducible refine Bx.drew ?_) | refine Bx.far ?_ (by first | assumption | (simp <;> done) | (simp; omega) | omega) _))
  have zp1 : (w.alloc (.cells #[.bool false, .slice none 0 0, .slice none 0 0] 26)).heap.size ≤ p1.heap.size := (by rw [hp]; exact leA)
  clear hp O
  have O := O'
  clear O'
  refine (cut_no s 47 _ HI.out).mono ?_
  rintro e w1 ⟨rfl, o1⟩
  replace B_r := Bx.old B_r o1
  replace O := Old.trans O o1
  have zw1 := o1.size
  have q_r_0 := B_r.cell 0 rfl
  have q_r_1 := B_r.cell 1 rfl
  have q_r_2 := B_r.cell 2 rfl
  have f_r_0 := B_r.frozen 0
  have f_r_1 := B_r.frozen 1
  have f_r_2 := B_r.frozen 2
  have q_r := B_r.lt
  go_wp2_with fail
  refine callsNamed ?_
  intro p2 hp
  clear q_r_0 q_r_1 q_r_2 f_r_0 f_r_1 f_r_2 q_r
  have O' : Old w p2 := (by rw [hp]; exact Below.trans (b := w1) O oldB)
  replace B_r : Bx p2 (w.heap.size) #[.bool false, .slice none 0 0, .slice none 0 0] := (by rw [hp]; repeat' (first | (with_reducible exact B_r) | (with_reducible refine Bx.alloc ?_ _) | (with_reducible refine Bx.drewN ?_ _) | (with_reducible refine Bx.drew ?_) | refine Bx.far ?_ (by first | assumption | (simp <;> done) | (simp; omega) | omega) _))
  have zp2 : w1.heap.size ≤ p2.heap.size := (by rw [hp]; exact leA)
  clear hp O
  have O := O'
  clear O'
  refine (implBig_c s z true _ HP.out HZ.out HT.out).mono ?_
  rintro e w2 ⟨⟨A1, c1, rfl, r1⟩, o2⟩
  replace B_r := Bx.old B_r o2
  replace O := Old.trans O o2
  have zw2 := o2.size
  replace r1 := Row.more (lo' := p2.heap.size) r1 leA
  have lim_r1 := Row.lim r1
  have q_r_0 := B_r.cell 0 rfl
  have q_r_1 := B_r.cell 1 rfl
  have q_r_2 := B_r.cell 2 rfl
  have f_r_0 := B_r.frozen 0
  have f_r_1 := B_r.frozen 1
  have f_r_2 := B_r.frozen 2
  have q_r := B_r.lt
  go_wp2_with fail
  refine callsNamed ?_
  intro p3 hp
  clear q_r_0 q_r_1 q_r_2 f_r_0 f_r_1 f_r_2 q_r
  have O' : Old w p3 := (by rw [hp]; exact Below.trans (b := w2) O oldB)
  replace B_r : Bx p3 (w.heap.size) #[.bool false, .slice none 0 0, .slice none 0 0] := (by rw [hp]; repeat' (first | (with_reducible exact B_r) | (with_reducible refine Bx.alloc ?_ _) | (with_reducible refine Bx.drewN ?_ _) | (with_reducible refine Bx.drew ?_) | refine Bx.far ?_ (by first | assumption | (simp <;> done) | (simp; omega) | omega) _))
  replace r1 := Row.at r1 p3 (by rw [hp]; repeat' (first | (with_reducible exact r1) | (with_reducible refine Row.alloc' ?_ _) | (with_reducible refine Row.drewN ?_ _) | (with_reducible refine Row.drew' ?_) | refine Row.far_off ?_ (by assumption) _ | refine Row.far_set ?_ (by first | (simp <;> done) | (simp; omega) | omega) _))
  have B_n : Bx p3 (w2.heap.size) #[.bool (sgnZ z), .slice A1 (len (magZ z)) c1] := (by rw [hp]; repeat' (first | (exact Bx.newAt3 (by first | rfl | (simp <;> done))) | (exact Bx.put2 (Bx.newAt3 (by first | rfl | (simp <;> done))) _ _) | (with_reducible refine Bx.alloc ?_ _) | (with_reducible refine Bx.drewN ?_ _) | (with_reducible refine Bx.drew ?_) | refine Bx.far ?_ (by first | assumption | (simp <;> done) | (simp; omega) | omega) _))
  have lt_n := B_n.lt
  have ne_n_r : ¬ (w2.heap.size = w.heap.size) := by omega
  have en_n_r : ¬ (w.heap.size = w2.heap.size) := by omega
  have B_l : Bx p3 (w2.heap.size + 1) #[.int .i64 1] := (by rw [hp]; repeat' (first | (exact Bx.newAt3 (by first | rfl | (simp <;> done))) | (with_reducible refine Bx.alloc ?_ _) | (with_reducible refine Bx.drewN ?_ _) | (with_reducible refine Bx.drew ?_) | refine Bx.far ?_ (by first | assumption | (simp <;> done) | (simp; omega) | omega) _))
  have lt_l := B_l.lt
  have ne_l_r : ¬ (w2.heap.size + 1 = w.heap.size) := by omega
  have en_l_r : ¬ (w.heap.size = w2.heap.size + 1) := by omega
  have ne_l_n : ¬ (w2.heap.size + 1 = w2.heap.size) := by omega
  have en_l_n : ¬ (w2.heap.size = w2.heap.size + 1) := by omega
  have B_q : Bx p3 (w2.heap.size + 1 + 1) #[.bool (sgnZ z), .slice A1 (len (magZ z)) c1, .slice (some ⟨w2.heap.size + 1, 0, none⟩) (len 1) 1] := (by rw [hp, one_len]; repeat' (first | (exact Bx.newAt3 (by first | rfl | (simp <;> done))) | (exact Bx.put3 (Bx.newAt3 (by first | rfl | (simp <;> done))) _ _ _) | (with_reducible refine Bx.alloc ?_ _) | (with_reducible refine Bx.drewN ?_ _) | (with_reducible refine Bx.drew ?_) | refine Bx.far ?_ (by first | assumption | (simp <;> done) | (simp; omega) | omega) _))
  have lt_q := B_q.lt
  have ne_q_r : ¬ (w2.heap.size + 1 + 1 = w.heap.size) := by omega
  have en_q_r : ¬ (w.heap.size = w2.heap.size + 1 + 1) := by omega
  have ne_q_n : ¬ (w2.heap.size + 1 + 1 = w2.heap.size) := by omega
  have en_q_n : ¬ (w2.heap.size = w2.heap.size + 1 + 1) := by omega
  have ne_q_l : ¬ (w2.heap.size + 1 + 1 = w2.heap.size + 1) := by omega
  have en_q_l : ¬ (w2.heap.size + 1 = w2.heap.size + 1 + 1) := by omega
  have zp3 : w2.heap.size ≤ p3.heap.size := (by rw [hp]; exact leA)
  clear hp O
  have O := O'
  clear O'
  have rl := one_box B_l (lo := w2.heap.size) (by omega)
  refine (plain_to (by rw [rRatOk_yes K3.out]) (impl_RatOk (sgnZ z) A1 (len (magZ z)) c1 _ (digI (magZ z)) (some ⟨w2.heap.size + 1, 0, none⟩) (len 1) 1 _ (digI 1) _ r1 rl (by omega) (by omega))).mono ?_
  rintro e w3 ⟨rfl, o3⟩
  replace B_r := Bx.old B_r o3
  replace B_n := Bx.old B_n o3
  replace B_l := Bx.old B_l o3
  replace B_q := Bx.old B_q o3
  replace r1 := Row.below r1 o3 (Nat.le_refl _)
  replace rl := Row.below rl o3 (Nat.le_refl _)
  replace O := Old.trans O o3
  have zw3 := o3.size
  have q_r_0 := B_r.cell 0 rfl
  have q_r_1 := B_r.cell 1 rfl
  have q_r_2 := B_r.cell 2 rfl
  have f_r_0 := B_r.frozen 0
  have f_r_1 := B_r.frozen 1
  have f_r_2 := B_r.frozen 2
  have q_r := B_r.lt
  have q_n_0 := B_n.cell 0 rfl
  have q_n_1 := B_n.cell 1 rfl
  have f_n_0 := B_n.frozen 0
  have f_n_1 := B_n.frozen 1
  have q_n := B_n.lt
  have q_l_0 := B_l.cell 0 rfl
  have f_l_0 := B_l.frozen 0
  have q_l := B_l.lt
  have q_q_0 := B_q.cell 0 rfl
  have q_q_1 := B_q.cell 1 rfl
  have q_q_2 := B_q.cell 2 rfl
  have f_q_0 := B_q.frozen 0
  have f_q_1 := B_q.frozen 1
  have f_q_2 := B_q.frozen 2
  have q_q := B_q.lt
  go_wp2_with fail
  refine callsNamed ?_
  intro p4 hp
  clear q_r_0 q_r_1 q_r_2 f_r_0 f_r_1 f_r_2 q_r q_n_0 q_n_1 f_n_0 f_n_1 q_n q_l_0 f_l_0 q_l q_q_0 q_q_1 q_q_2 f_q_0 f_q_1 f_q_2 q_q
  have O' : Old w p4 := (by rw [hp]; exact Below.trans (b := w3) O oldB)
  replace B_r : Bx p4 (w.heap.size) #[.bool false, .slice none 0 0, .slice none 0 0] := (by rw [hp]; repeat' (first | (with_reducible exact B_r) | (with_reducible refine Bx.alloc ?_ _) | (with_reducible refine Bx.drewN ?_ _) | (with_reducible refine Bx.drew ?_) | refine Bx.far ?_ (by first | assumption | (simp <;> done) | (simp; omega) | omega) _))
  replace B_n : Bx p4 (w2.heap.size) #[.bool (sgnZ z), .slice A1 (len (magZ z)) c1] := (by rw [hp]; repeat' (first | (with_reducible exact B_n) | (with_reducible refine Bx.alloc ?_ _) | (with_reducible refine Bx.drewN ?_ _) | (with_reducible refine Bx.drew ?_) | refine Bx.far ?_ (by first | assumption | (simp <;> done) | (simp; omega) | omega) _))
  replace B_l : Bx p4 (w2.heap.size + 1) #[.int .i64 1] := (by rw [hp]; repeat' (first | (with_reducible exact B_l) | (with_reducible refine Bx.alloc ?_ _) | (with_reducible refine Bx.drewN ?_ _) | (with_reducible refine Bx.drew ?_) | refine Bx.far ?_ (by first | assumption | (simp <;> done) | (simp; omega) | omega) _))
  replace B_q : Bx p4 (w2.heap.size + 1 + 1) #[.bool (sgnZ z), .slice A1 (len (magZ z)) c1, .slice (some ⟨w2.heap.size + 1, 0, none⟩) (len 1) 1] := (by rw [hp]; repeat' (first | (with_reducible exact B_q) | (with_reducible refine Bx.alloc ?_ _) | (with_reducible refine Bx.drewN ?_ _) | (with_reducible refine Bx.drew ?_) | refine Bx.far ?_ (by first | assumption | (simp <;> done) | (simp; omega) | omega) _))
  replace r1 := Row.at r1 p4 (by rw [hp]; repeat' (first | (with_reducible exact r1) | (with_reducible refine Row.alloc' ?_ _) | (with_reducible refine Row.drewN ?_ _) | (with_reducible refine Row.drew' ?_) | refine Row.far_off ?_ (by assumption) _ | refine Row.far_set ?_ (by first | (simp <;> done) | (simp; omega) | omega) _))
  replace rl := Row.at rl p4 (by rw [hp]; repeat' (first | (with_reducible exact rl) | (with_reducible refine Row.alloc' ?_ _) | (with_reducible refine Row.drewN ?_ _) | (with_reducible refine Row.drew' ?_) | refine Row.far_off ?_ (by assumption) _ | refine Row.far_set ?_ (by first | (simp <;> done) | (simp; omega) | omega) _))
  have zp4 : w3.heap.size ≤ p4.heap.size := (by rw [hp]; exact leA)
  clear hp O
  have O := O'
  clear O'
  refine (formatRat_any (sgnZ z) A1 (len (magZ z)) c1 _ (digI (magZ z)) (some ⟨w2.heap.size + 1, 0, none⟩) (len 1) 1 _ (digI 1) _ r1 rl K3.out (KT.old K O)).mono ?_
  rintro e w4 ⟨rfl, o4⟩
  replace B_r := Bx.old B_r o4
  replace B_n := Bx.old B_n o4
  replace B_l := Bx.old B_l o4
  replace B_q := Bx.old B_q o4
  replace r1 := Row.below r1 o4 (Nat.le_refl _)
  replace rl := Row.below rl o4 (Nat.le_refl _)
  replace O := Old.trans O o4
  have zw4 := o4.size
  rw [show ratT (sgnZ z) (len (magZ z)) (digI (magZ z)) (len 1) (digI 1) = txQ z 1 from rfl]
  have q_r_0 := B_r.cell 0 rfl
  have q_r_1 := B_r.cell 1 rfl
  have q_r_2 := B_r.cell 2 rfl
  have f_r_0 := B_r.frozen 0
  have f_r_1 := B_r.frozen 1
  have f_r_2 := B_r.frozen 2
  have q_r := B_r.lt
  have q_n_0 := B_n.cell 0 rfl
  have q_n_1 := B_n.cell 1 rfl
  have f_n_0 := B_n.frozen 0
  have f_n_1 := B_n.frozen 1
  have q_n := B_n.lt
  have q_l_0 := B_l.cell 0 rfl
  have f_l_0 := B_l.frozen 0
  have q_l := B_l.lt
  have q_q_0 := B_q.cell 0 rfl
  have q_q_1 := B_q.cell 1 rfl
  have q_q_2 := B_q.cell 2 rfl
  have f_q_0 := B_q.frozen 0
  have f_q_1 := B_q.frozen 1
  have f_q_2 := B_q.frozen 2
  have q_q := B_q.lt
  go_wp2
  refine bodyPost_ret (v := .tuple #[.agg #[.bool false, .slice none 0 0, .slice none 0 0], .bool false]) (by simp [results, Tryz.results6, go_sem, q_r_0, q_r_1, q_r_2]) rfl ⟨RetRB.zero rfl, Below.trans (b := w4) O oldB⟩
set_option maxRecDepth 100000 in
set_option maxHeartbeats 8000000 in
theorem impl_ParseRat_one_yes (s : ByteArray) (z : Int) (w : World) (b : s.size ≤ 1048576) (K : KT w) (b1 : Bool) (hidx : Lib.indexByte s.data.toList 47 = -1) (hz : zParseBigInt s = z) (ht : rParseBigInt1 s = b1) (k1 : b1 = true) (k3 : okR (sgnZ z) (len (magZ z)) (digI (magZ z)) (len 1) (digI 1)) (k4 : txQ z 1 = s) :
    Calls Tryz.prog 6 #[.string s] w fun e w' => RetRB e w' w.heap.size (z, 1) true ∧ Old w w' := by
  subst k1
  have hlz : len (magZ z) ≤ 60 := by rw [← hz]; exact zParseBigInt_len _
  have HZ := Lib.hid hz
  have HT := Lib.hid ht
  clear hz ht
  have hld : len 1 ≤ 60 := by rw [one_len]; omega
  have HI := Lib.hid hidx
  clear hidx
  have HP : Hid (s.size ≤ maxLen) := Lib.hid (by unfold maxLen; omega)
  have K3 := Lib.hid k3
  clear k3
  have K4 := Lib.hid k4
  clear k4
  have O : Old w (w.alloc (.cells #[.bool false, .slice none 0 0, .slice none 0 0] 26)) := oldB
  have B_r : Bx (w.alloc (.cells #[.bool false, .slice none 0 0, .slice none 0 0] 26)) (w.heap.size) #[.bool false, .slice none 0 0, .slice none 0 0] := by have h := (Bx.new w #[.bool false, .slice none 0 0, .slice none 0 0] 26); simpa using h
  have ze : w.heap.size + 1 ≤ (w.alloc (.cells #[.bool false, .slice none 0 0, .slice none 0 0] 26)).heap.size := (by simp)
  go_enter Tryz.func6, Tryz.ntmps6
  go_wp2_with fail
  refine callsNamed ?_
  intro p1 hp
  have O' : Old w p1 := (by rw [hp]; exact Below.trans (b := (w.alloc (.cells #[.bool false, .slice none 0 0, .slice none 0 0] 26))) O oldB)
  replace B_r : Bx p1 (w.heap.size) #[.bool false, .slice none 0 0, .slice none 0 0] := (by rw [hp]; repeat' (first | (with_reducible exact B_r) | (with_reducible refine Bx.alloc ?_ _) | (with_reducible refine Bx.drewN ?_ _) | (with_reducible refine Bx.drew ?_) | refine Bx.far ?_ (by first | assumption | (simp <;> done) | (simp; omega) | omega) _))
  have zp1 : (w.alloc (.cells #[.bool false, .slice none 0 0, .slice none 0 0] 26)).heap.size ≤ p1.heap.size := (by rw [hp]; exact leA)
  clear hp O
  have O := O'
  clear O'
  refine (cut_no s 47 _ HI.out).mono ?_
  rintro e w1 ⟨rfl, o1⟩
  replace B_r := Bx.old B_r o1
  replace O := Old.trans O o1
  have zw1 := o1.size
  have q_r_0 := B_r.cell 0 rfl
  have q_r_1 := B_r.cell 1 rfl
  have q_r_2 := B_r.cell 2 rfl
  have f_r_0 := B_r.frozen 0
  have f_r_1 := B_r.frozen 1
  have f_r_2 := B_r.frozen 2
  have q_r := B_r.lt
  go_wp2_with fail
  refine callsNamed ?_
  intro p2 hp
  clear q_r_0 q_r_1 q_r_2 f_r_0 f_r_1 f_r_2 q_r
  have O' : Old w p2 := (by rw [hp]; exact Below.trans (b := w1) O oldB)
  replace B_r : Bx p2 (w.heap.size) #[.bool false, .slice none 0 0, .slice none 0 0] := (by rw [hp]; repeat' (first | (with_reducible exact B_r) | (with_reducible refine Bx.alloc ?_ _) | (with_reducible refine Bx.drewN ?_ _) | (with_reducible refine Bx.drew ?_) | refine Bx.far ?_ (by first | assumption | (simp <;> done) | (simp; omega) | omega) _))
  have zp2 : w1.heap.size ≤ p2.heap.size := (by rw [hp]; exact leA)
  clear hp O
  have O := O'
  clear O'
  refine (implBig_c s z true _ HP.out HZ.out HT.out).mono ?_
  rintro e w2 ⟨⟨A1, c1, rfl, r1⟩, o2⟩
  replace B_r := Bx.old B_r o2
  replace O := Old.trans O o2
  have zw2 := o2.size
  replace r1 := Row.more (lo' := p2.heap.size) r1 leA
  have lim_r1 := Row.lim r1
  have q_r_0 := B_r.cell 0 rfl
  have q_r_1 := B_r.cell 1 rfl
  have q_r_2 := B_r.cell 2 rfl
  have f_r_0 := B_r.frozen 0
  have f_r_1 := B_r.frozen 1
  have f_r_2 := B_r.frozen 2
  have q_r := B_r.lt
  go_wp2_with fail
  refine callsNamed ?_
  intro p3 hp
  clear q_r_0 q_r_1 q_r_2 f_r_0 f_r_1 f_r_2 q_r
  have O' : Old w p3 := (by rw [hp]; exact Below.trans (b := w2) O oldB)
  replace B_r : Bx p3 (w.heap.size) #[.bool false, .slice none 0 0, .slice none 0 0] := (by rw [hp]; repeat' (first | (with_reducible exact B_r) | (with_reducible refine Bx.alloc ?_ _) | (with_reducible refine Bx.drewN ?_ _) | (with_reducible refine Bx.drew ?_) | refine Bx.far ?_ (by first | assumption | (simp <;> done) | (simp; omega) | omega) _))
  replace r1 := Row.at r1 p3 (by rw [hp]; repeat' (first | (with_reducible exact r1) | (with_reducible refine Row.alloc' ?_ _) | (with_reducible refine Row.drewN ?_ _) | (with_reducible refine Row.drew' ?_) | refine Row.far_off ?_ (by assumption) _ | refine Row.far_set ?_ (by first | (simp <;> done) | (simp; omega) | omega) _))
  have B_n : Bx p3 (w2.heap.size) #[.bool (sgnZ z), .slice A1 (len (magZ z)) c1] := (by rw [hp]; repeat' (first | (exact Bx.newAt3 (by first | rfl | (simp <;> done))) | (exact Bx.put2 (Bx.newAt3 (by first | rfl | (simp <;> done))) _ _) | (with_reducible refine Bx.alloc ?_ _) | (with_reducible refine Bx.drewN ?_ _) | (with_reducible refine Bx.drew ?_) | refine Bx.far ?_ (by first | assumption | (simp <;> done) | (simp; omega) | omega) _))
  have lt_n := B_n.lt
  have ne_n_r : ¬ (w2.heap.size = w.heap.size) := by omega
  have en_n_r : ¬ (w.heap.size = w2.heap.size) := by omega
  have B_l : Bx p3 (w2.heap.size + 1) #[.int .i64 1] := (by rw [hp]; repeat' (first | (exact Bx.newAt3 (by first | rfl | (simp <;> done))) | (with_reducible refine Bx.alloc ?_ _) | (with_reducible refine Bx.drewN ?_ _) | (with_reducible refine Bx.drew ?_) | refine Bx.far ?_ (by first | assumption | (simp <;> done) | (simp; omega) | omega) _))
  have lt_l := B_l.lt
  have ne_l_r : ¬ (w2.heap.size + 1 = w.heap.size) := by omega
  have en_l_r : ¬ (w.heap.size = w2.heap.size + 1) := by omega
  have ne_l_n : ¬ (w2.heap.size + 1 = w2.heap.size) := by omega
  have en_l_n : ¬ (w2.heap.size = w2.heap.size + 1) := by omega
  have B_q : Bx p3 (w2.heap.size + 1 + 1) #[.bool (sgnZ z), .slice A1 (len (magZ z)) c1, .slice (some ⟨w2.heap.size + 1, 0, none⟩) (len 1) 1] := (by rw [hp, one_len]; repeat' (first | (exact Bx.newAt3 (by first | rfl | (simp <;> done))) | (exact Bx.put3 (Bx.newAt3 (by first | rfl | (simp <;> done))) _ _ _) | (with_reducible refine Bx.alloc ?_ _) | (with_reducible refine Bx.drewN ?_ _) | (with_reducible refine Bx.drew ?_) | refine Bx.far ?_ (by first | assumption | (simp <;> done) | (simp; omega) | omega) _))
  have lt_q := B_q.lt
  have ne_q_r : ¬ (w2.heap.size + 1 + 1 = w.heap.size) := by omega
  have en_q_r : ¬ (w.heap.size = w2.heap.size + 1 + 1) := by omega
  have ne_q_n : ¬ (w2.heap.size + 1 + 1 = w2.heap.size) := by omega
  have en_q_n : ¬ (w2.heap.size = w2.heap.size + 1 + 1) := by omega
  have ne_q_l : ¬ (w2.heap.size + 1 + 1 = w2.heap.size + 1) := by omega
  have en_q_l : ¬ (w2.heap.size + 1 = w2.heap.size + 1 + 1) := by omega
  have zp3 : w2.heap.size ≤ p3.heap.size := (by rw [hp]; exact leA)
  clear hp O
  have O := O'
  clear O'
  have rl := one_box B_l (lo := w2.heap.size) (by omega)
  refine (plain_to (by rw [rRatOk_yes K3.out]) (impl_RatOk (sgnZ z) A1 (len (magZ z)) c1 _ (digI (magZ z)) (some ⟨w2.heap.size + 1, 0, none⟩) (len 1) 1 _ (digI 1) _ r1 rl (by omega) (by omega))).mono ?_
  rintro e w3 ⟨rfl, o3⟩
  replace B_r := Bx.old B_r o3
  replace B_n := Bx.old B_n o3
  replace B_l := Bx.old B_l o3
  replace B_q := Bx.old B_q o3
  replace r1 := Row.below r1 o3 (Nat.le_refl _)
  replace rl := Row.below rl o3 (Nat.le_refl _)
  replace O := Old.trans O o3
  have zw3 := o3.size
  have q_r_0 := B_r.cell 0 rfl
  have q_r_1 := B_r.cell 1 rfl
  have q_r_2 := B_r.cell 2 rfl
  have f_r_0 := B_r.frozen 0
  have f_r_1 := B_r.frozen 1
  have f_r_2 := B_r.frozen 2
  have q_r := B_r.lt
  have q_n_0 := B_n.cell 0 rfl
  have q_n_1 := B_n.cell 1 rfl
  have f_n_0 := B_n.frozen 0
  have f_n_1 := B_n.frozen 1
  have q_n := B_n.lt
  have q_l_0 := B_l.cell 0 rfl
  have f_l_0 := B_l.frozen 0
  have q_l := B_l.lt
  have q_q_0 := B_q.cell 0 rfl
  have q_q_1 := B_q.cell 1 rfl
  have q_q_2 := B_q.cell 2 rfl
  have f_q_0 := B_q.frozen 0
  have f_q_1 := B_q.frozen 1
  have f_q_2 := B_q.frozen 2
  have q_q := B_q.lt
  go_wp2_with fail
  refine callsNamed ?_
  intro p4 hp
  clear q_r_0 q_r_1 q_r_2 f_r_0 f_r_1 f_r_2 q_r q_n_0 q_n_1 f_n_0 f_n_1 q_n q_l_0 f_l_0 q_l q_q_0 q_q_1 q_q_2 f_q_0 f_q_1 f_q_2 q_q
  have O' : Old w p4 := (by rw [hp]; exact Below.trans (b := w3) O oldB)
  replace B_r : Bx p4 (w.heap.size) #[.bool false, .slice none 0 0, .slice none 0 0] := (by rw [hp]; repeat' (first | (with_reducible exact B_r) | (with_reducible refine Bx.alloc ?_ _) | (with_reducible refine Bx.drewN ?_ _) | (with_reducible refine Bx.drew ?_) | refine Bx.far ?_ (by first | assumption | (simp <;> done) | (simp; omega) | omega) _))
  replace B_n : Bx p4 (w2.heap.size) #[.bool (sgnZ z), .slice A1 (len (magZ z)) c1] := (by rw [hp]; repeat' (first | (with_reducible exact B_n) | (with_reducible refine Bx.alloc ?_ _) | (with_reducible refine Bx.drewN ?_ _) | (with_reducible refine Bx.drew ?_) | refine Bx.far ?_ (by first | assumption | (simp <;> done) | (simp; omega) | omega) _))
  replace B_l : Bx p4 (w2.heap.size + 1) #[.int .i64 1] := (by rw [hp]; repeat' (first | (with_reducible exact B_l) | (with_reducible refine Bx.alloc ?_ _) | (with_reducible refine Bx.drewN ?_ _) | (with_reducible refine Bx.drew ?_) | refine Bx.far ?_ (by first | assumption | (simp <;> done) | (simp; omega) | omega) _))
  replace B_q : Bx p4 (w2.heap.size + 1 + 1) #[.bool (sgnZ z), .slice A1 (len (magZ z)) c1, .slice (some ⟨w2.heap.size + 1, 0, none⟩) (len 1) 1] := (by rw [hp]; repeat' (first | (with_reducible exact B_q) | (with_reducible refine Bx.alloc ?_ _) | (with_reducible refine Bx.drewN ?_ _) | (with_reducible refine Bx.drew ?_) | refine Bx.far ?_ (by first | assumption | (simp <;> done) | (simp; omega) | omega) _))
  replace r1 := Row.at r1 p4 (by rw [hp]; repeat' (first | (with_reducible exact r1) | (with_reducible refine Row.alloc' ?_ _) | (with_reducible refine Row.drewN ?_ _) | (with_reducible refine Row.drew' ?_) | refine Row.far_off ?_ (by assumption) _ | refine Row.far_set ?_ (by first | (simp <;> done) | (simp; omega) | omega) _))
  replace rl := Row.at rl p4 (by rw [hp]; repeat' (first | (with_reducible exact rl) | (with_reducible refine Row.alloc' ?_ _) | (with_reducible refine Row.drewN ?_ _) | (with_reducible refine Row.drew' ?_) | refine Row.far_off ?_ (by assumption) _ | refine Row.far_set ?_ (by first | (simp <;> done) | (simp; omega) | omega) _))
  have zp4 : w3.heap.size ≤ p4.heap.size := (by rw [hp]; exact leA)
  clear hp O
  have O := O'
  clear O'
  refine (formatRat_any (sgnZ z) A1 (len (magZ z)) c1 _ (digI (magZ z)) (some ⟨w2.heap.size + 1, 0, none⟩) (len 1) 1 _ (digI 1) _ r1 rl K3.out (KT.old K O)).mono ?_
  rintro e w4 ⟨rfl, o4⟩
  replace B_r := Bx.old B_r o4
  replace B_n := Bx.old B_n o4
  replace B_l := Bx.old B_l o4
  replace B_q := Bx.old B_q o4
  replace r1 := Row.below r1 o4 (Nat.le_refl _)
  replace rl := Row.below rl o4 (Nat.le_refl _)
  replace O := Old.trans O o4
  have zw4 := o4.size
  rw [show ratT (sgnZ z) (len (magZ z)) (digI (magZ z)) (len 1) (digI 1) = txQ z 1 from rfl]
  rw [K4.out]
  have q_r_0 := B_r.cell 0 rfl
  have q_r_1 := B_r.cell 1 rfl
  have q_r_2 := B_r.cell 2 rfl
  have f_r_0 := B_r.frozen 0
  have f_r_1 := B_r.frozen 1
  have f_r_2 := B_r.frozen 2
  have q_r := B_r.lt
  have q_n_0 := B_n.cell 0 rfl
  have q_n_1 := B_n.cell 1 rfl
  have f_n_0 := B_n.frozen 0
  have f_n_1 := B_n.frozen 1
  have q_n := B_n.lt
  have q_l_0 := B_l.cell 0 rfl
  have f_l_0 := B_l.frozen 0
  have q_l := B_l.lt
  have q_q_0 := B_q.cell 0 rfl
  have q_q_1 := B_q.cell 1 rfl
  have q_q_2 := B_q.cell 2 rfl
  have f_q_0 := B_q.frozen 0
  have f_q_1 := B_q.frozen 1
  have f_q_2 := B_q.frozen 2
  have q_q := B_q.lt
  go_wp2
  refine bodyPost_ret (v := .tuple #[.agg #[.bool (sgnZ z), .slice A1 (len (magZ z)) c1, .slice (some ⟨w2.heap.size + 1, 0, none⟩) (len 1) 1], .bool true]) (by simp [results, Tryz.results6, go_sem, q_r_0, q_r_1, q_r_2]) rfl ⟨⟨z, 1, A1, c1, (some ⟨w2.heap.size + 1, 0, none⟩), 1, rfl, rfl, ?_, ?_, Apart.of lim_r1 rl (by omega)⟩, ?_⟩
  · refine Row.more (lo := p2.heap.size) ?_ leA
    repeat' (first | (with_reducible exact r1) | (with_reducible refine Row.far_set ?_ (by first | (simp <;> done) | (simp; omega) | omega) _))
  · refine Row.more (lo := w2.heap.size) ?_ leA
    repeat' (first | (with_reducible exact rl) | (with_reducible refine Row.far_set ?_ (by first | (simp <;> done) | (simp; omega) | omega) _))
  · exact Below.trans (b := w4) O oldB
set_option maxRecDepth 100000 in
set_option maxHeartbeats 8000000 in
theorem impl_ParseRat_cut_no1 (s : ByteArray) (z : Int) (w : World) (b : s.size ≤ 1048576) (K : KT w) (sA sB : ByteArray) (d : Nat) (b1 b2 : Bool) (i : Nat) (hidx : Lib.indexByte s.data.toList 47 = (i : Int)) (hi : i < s.size) (e0 : s.extract 0 i = sA) (e1 : s.extract (i + 1) s.size = sB) (hz : zParseBigInt sA = z) (ht : rParseBigInt1 sA = b1) (hd : rParseNat sB = d) (hu : rParseNat1 sB = b2) (k1 : b1 = false) :
    Calls Tryz.prog 6 #[.string s] w fun e w' => RetRB e w' w.heap.size (0, 0) false ∧ Old w w' := by
  subst k1
  have hlz : len (magZ z) ≤ 60 := by rw [← hz]; exact zParseBigInt_len _
  have HZ := Lib.hid hz
  have HT := Lib.hid ht
  clear hz ht
  have hld : len d ≤ 60 := by rw [← hd]; exact rParseNat_len _
  have HD := Lib.hid hd
  have HU := Lib.hid hu
  clear hd hu
  have HI := Lib.hid hidx
  clear hidx
  have HP : Hid (sA.size ≤ maxLen) := Lib.hid (by rw [← e0, ByteArray.size_extract]; unfold maxLen; omega)
  have HQ : Hid (sB.size ≤ maxLen) := Lib.hid (by rw [← e1, ByteArray.size_extract]; unfold maxLen; omega)
  have E0 := Lib.hid e0
  have E1 := Lib.hid e1
  clear e0 e1
  have O : Old w (w.alloc (.cells #[.bool false, .slice none 0 0, .slice none 0 0] 26)) := oldB
  have B_r : Bx (w.alloc (.cells #[.bool false, .slice none 0 0, .slice none 0 0] 26)) (w.heap.size) #[.bool false, .slice none 0 0, .slice none 0 0] := by have h := (Bx.new w #[.bool false, .slice none 0 0, .slice none 0 0] 26); simpa using h
  have ze : w.heap.size + 1 ≤ (w.alloc (.cells #[.bool false, .slice none 0 0, .slice none 0 0] 26)).heap.size := (by simp)
  go_enter Tryz.func6, Tryz.ntmps6
  go_wp2_with fail
  refine callsNamed ?_
  intro p1 hp
  have O' : Old w p1 := (by rw [hp]; exact Below.trans (b := (w.alloc (.cells #[.bool false, .slice none 0 0, .slice none 0 0] 26))) O oldB)
  replace B_r : Bx p1 (w.heap.size) #[.bool false, .slice none 0 0, .slice none 0 0] := (by rw [hp]; repeat' (first | (with_reducible exact B_r) | (with_reducible refine Bx.alloc ?_ _) | (with_reducible refine Bx.drewN ?_ _) | (with_reducible refine Bx.drew ?_) | refine Bx.far ?_ (by first | assumption | (simp <;> done) | (simp; omega) | omega) _))
  have zp1 : (w.alloc (.cells #[.bool false, .slice none 0 0, .slice none 0 0] 26)).heap.size ≤ p1.heap.size := (by rw [hp]; exact leA)
  clear hp O
  have O := O'
  clear O'
  refine (cut_yes s 47 i _ b HI.out hi).mono ?_
  rintro e w1 ⟨rfl, o1⟩
  replace B_r := Bx.old B_r o1
  replace O := Old.trans O o1
  have zw1 := o1.size
  rw [E0.out, E1.out]
  have q_r_0 := B_r.cell 0 rfl
  have q_r_1 := B_r.cell 1 rfl
  have q_r_2 := B_r.cell 2 rfl
  have f_r_0 := B_r.frozen 0
  have f_r_1 := B_r.frozen 1
  have f_r_2 := B_r.frozen 2
  have q_r := B_r.lt
  go_wp2_with fail
  refine callsNamed ?_
  intro p2 hp
  clear q_r_0 q_r_1 q_r_2 f_r_0 f_r_1 f_r_2 q_r
  have O' : Old w p2 := (by rw [hp]; exact Below.trans (b := w1) O oldB)
  replace B_r : Bx p2 (w.heap.size) #[.bool false, .slice none 0 0, .slice none 0 0] := (by rw [hp]; repeat' (first | (with_reducible exact B_r) | (with_reducible refine Bx.alloc ?_ _) | (with_reducible refine Bx.drewN ?_ _) | (with_reducible refine Bx.drew ?_) | refine Bx.far ?_ (by first | assumption | (simp <;> done) | (simp; omega) | omega) _))
  have zp2 : w1.heap.size ≤ p2.heap.size := (by rw [hp]; exact leA)
  clear hp O
  have O := O'
  clear O'
  refine (implBig_c sA z false _ HP.out HZ.out HT.out).mono ?_
  rintro e w2 ⟨⟨A1, c1, rfl, r1⟩, o2⟩
  replace B_r := Bx.old B_r o2
  replace O := Old.trans O o2
  have zw2 := o2.size
  replace r1 := Row.more (lo' := p2.heap.size) r1 leA
  have lim_r1 := Row.lim r1
  have q_r_0 := B_r.cell 0 rfl
  have q_r_1 := B_r.cell 1 rfl
  have q_r_2 := B_r.cell 2 rfl
  have f_r_0 := B_r.frozen 0
  have f_r_1 := B_r.frozen 1
  have f_r_2 := B_r.frozen 2
  have q_r := B_r.lt
  go_wp2_with fail
  refine callsNamed ?_
  intro p3 hp
  clear q_r_0 q_r_1 q_r_2 f_r_0 f_r_1 f_r_2 q_r
  have O' : Old w p3 := (by rw [hp]; exact Below.trans (b := w2) O oldB)
  replace B_r : Bx p3 (w.heap.size) #[.bool false, .slice none 0 0, .slice none 0 0] := (by rw [hp]; repeat' (first | (with_reducible exact B_r) | (with_reducible refine Bx.alloc ?_ _) | (with_reducible refine Bx.drewN ?_ _) | (with_reducible refine Bx.drew ?_) | refine Bx.far ?_ (by first | assumption | (simp <;> done) | (simp; omega) | omega) _))
  replace r1 := Row.at r1 p3 (by rw [hp]; repeat' (first | (with_reducible exact r1) | (with_reducible refine Row.alloc' ?_ _) | (with_reducible refine Row.drewN ?_ _) | (with_reducible refine Row.drew' ?_) | refine Row.far_off ?_ (by assumption) _ | refine Row.far_set ?_ (by first | (simp <;> done) | (simp; omega) | omega) _))
  have B_n : Bx p3 (w2.heap.size) #[.bool (sgnZ z), .slice A1 (len (magZ z)) c1] := (by rw [hp]; repeat' (first | (exact Bx.newAt3 (by first | rfl | (simp <;> done))) | (exact Bx.put2 (Bx.newAt3 (by first | rfl | (simp <;> done))) _ _) | (with_reducible refine Bx.alloc ?_ _) | (with_reducible refine Bx.drewN ?_ _) | (with_reducible refine Bx.drew ?_) | refine Bx.far ?_ (by first | assumption | (simp <;> done) | (simp; omega) | omega) _))
  have lt_n := B_n.lt
  have ne_n_r : ¬ (w2.heap.size = w.heap.size) := by omega
  have en_n_r : ¬ (w.heap.size = w2.heap.size) := by omega
  have B_l : Bx p3 (w2.heap.size + 1) #[.int .i64 1] := (by rw [hp]; repeat' (first | (exact Bx.newAt3 (by first | rfl | (simp <;> done))) | (with_reducible refine Bx.alloc ?_ _) | (with_reducible refine Bx.drewN ?_ _) | (with_reducible refine Bx.drew ?_) | refine Bx.far ?_ (by first | assumption | (simp <;> done) | (simp; omega) | omega) _))
  have lt_l := B_l.lt
  have ne_l_r : ¬ (w2.heap.size + 1 = w.heap.size) := by omega
  have en_l_r : ¬ (w.heap.size = w2.heap.size + 1) := by omega
  have ne_l_n : ¬ (w2.heap.size + 1 = w2.heap.size) := by omega
  have en_l_n : ¬ (w2.heap.size = w2.heap.size + 1) := by omega
  have B_q : Bx p3 (w2.heap.size + 1 + 1) #[.bool (sgnZ z), .slice A1 (len (magZ z)) c1, .slice (some ⟨w2.heap.size + 1, 0, none⟩) (len 1) 1] := (by rw [hp, one_len]; repeat' (first | (exact Bx.newAt3 (by first | rfl | (simp <;> done))) | (exact Bx.put3 (Bx.newAt3 (by first | rfl | (simp <;> done))) _ _ _) | (with_reducible refine Bx.alloc ?_ _) | (with_reducible refine Bx.drewN ?_ _) | (with_reducible refine Bx.drew ?_) | refine Bx.far ?_ (by first | assumption | (simp <;> done) | (simp; omega) | omega) _))
  have lt_q := B_q.lt
  have ne_q_r : ¬ (w2.heap.size + 1 + 1 = w.heap.size) := by omega
  have en_q_r : ¬ (w.heap.size = w2.heap.size + 1 + 1) := by omega
  have ne_q_n : ¬ (w2.heap.size + 1 + 1 = w2.heap.size) := by omega
  have en_q_n : ¬ (w2.heap.size = w2.heap.size + 1 + 1) := by omega
  have ne_q_l : ¬ (w2.heap.size + 1 + 1 = w2.heap.size + 1) := by omega
  have en_q_l : ¬ (w2.heap.size + 1 = w2.heap.size + 1 + 1) := by omega
  have zp3 : w2.heap.size ≤ p3.heap.size := (by rw [hp]; exact leA)
  clear hp O
  have O := O'
  clear O'
  have rl := one_box B_l (lo := w2.heap.size) (by omega)
  have off_r1 : Off (w2.heap.size + 1 + 1) A1 (len (magZ z)) := Lim.off lim_r1 (by omega)
  have off_rl : Off (w2.heap.size + 1 + 1) (some (⟨w2.heap.size + 1, 0, none⟩ : Addr)) (len 1) := Off.one (by omega)
  refine (implNat_c sB d b2 _ HQ.out HD.out HU.out).mono ?_
  rintro e w3 ⟨⟨A2, c2, rfl, r2⟩, o3⟩
  replace B_r := Bx.old B_r o3
  replace B_n := Bx.old B_n o3
  replace B_l := Bx.old B_l o3
  replace B_q := Bx.old B_q o3
  replace r1 := Row.below r1 o3 (Nat.le_refl _)
  replace rl := Row.below rl o3 (Nat.le_refl _)
  replace O := Old.trans O o3
  have zw3 := o3.size
  replace r2 := Row.more (lo' := p3.heap.size) r2 leA
  have lim_r2 := Row.lim r2
  have q_r_0 := B_r.cell 0 rfl
  have q_r_1 := B_r.cell 1 rfl
  have q_r_2 := B_r.cell 2 rfl
  have f_r_0 := B_r.frozen 0
  have f_r_1 := B_r.frozen 1
  have f_r_2 := B_r.frozen 2
  have q_r := B_r.lt
  have q_n_0 := B_n.cell 0 rfl
  have q_n_1 := B_n.cell 1 rfl
  have f_n_0 := B_n.frozen 0
  have f_n_1 := B_n.frozen 1
  have q_n := B_n.lt
  have q_l_0 := B_l.cell 0 rfl
  have f_l_0 := B_l.frozen 0
  have q_l := B_l.lt
  have q_q_0 := B_q.cell 0 rfl
  have q_q_1 := B_q.cell 1 rfl
  have q_q_2 := B_q.cell 2 rfl
  have f_q_0 := B_q.frozen 0
  have f_q_1 := B_q.frozen 1
  have f_q_2 := B_q.frozen 2
  have q_q := B_q.lt
  go_upto_region 7 with fail
  refine wpNamed ?_
  intro p4 hp
  clear q_r_0 q_r_1 q_r_2 f_r_0 f_r_1 f_r_2 q_r q_n_0 q_n_1 f_n_0 f_n_1 q_n q_l_0 f_l_0 q_l q_q_0 q_q_1 q_q_2 f_q_0 f_q_1 f_q_2 q_q
  have O' : Old w p4 := (by rw [hp]; exact Below.trans (b := w3) O oldB)
  replace B_r : Bx p4 (w.heap.size) #[.bool false, .slice none 0 0, .slice none 0 0] := (by rw [hp]; repeat' (first | (with_reducible exact B_r) | (with_reducible refine Bx.alloc ?_ _) | (with_reducible refine Bx.drewN ?_ _) | (with_reducible refine Bx.drew ?_) | refine Bx.far ?_ (by first | assumption | (simp <;> done) | (simp; omega) | omega) _))
  replace B_n : Bx p4 (w2.heap.size) #[.bool (sgnZ z), .slice A1 (len (magZ z)) c1] := (by rw [hp]; repeat' (first | (with_reducible exact B_n) | (with_reducible refine Bx.alloc ?_ _) | (with_reducible refine Bx.drewN ?_ _) | (with_reducible refine Bx.drew ?_) | refine Bx.far ?_ (by first | assumption | (simp <;> done) | (simp; omega) | omega) _))
  replace B_l : Bx p4 (w2.heap.size + 1) #[.int .i64 1] := (by rw [hp]; repeat' (first | (with_reducible exact B_l) | (with_reducible refine Bx.alloc ?_ _) | (with_reducible refine Bx.drewN ?_ _) | (with_reducible refine Bx.drew ?_) | refine Bx.far ?_ (by first | assumption | (simp <;> done) | (simp; omega) | omega) _))
  replace B_q : Bx p4 (w2.heap.size + 1 + 1) #[.bool (sgnZ z), .slice A1 (len (magZ z)) c1, .slice A2 (len d) c2] := (by rw [hp]; repeat' (first | (with_reducible exact B_q) | (with_reducible refine Bx.alloc ?_ _) | (with_reducible refine Bx.drewN ?_ _) | (with_reducible refine Bx.drew ?_) | refine Bx.set (cs := #[.bool (sgnZ z), .slice A1 (len (magZ z)) c1, .slice (some ⟨w2.heap.size + 1, 0, none⟩) (len 1) 1]) ?_ 2 _ | refine Bx.far ?_ (by first | assumption | (simp <;> done) | (simp; omega) | omega) _))
  replace r1 := Row.at r1 p4 (by rw [hp]; repeat' (first | (with_reducible exact r1) | (with_reducible refine Row.alloc' ?_ _) | (with_reducible refine Row.drewN ?_ _) | (with_reducible refine Row.drew' ?_) | refine Row.far_off ?_ (by assumption) _ | refine Row.far_set ?_ (by first | (simp <;> done) | (simp; omega) | omega) _))
  replace rl := Row.at rl p4 (by rw [hp]; repeat' (first | (with_reducible exact rl) | (with_reducible refine Row.alloc' ?_ _) | (with_reducible refine Row.drewN ?_ _) | (with_reducible refine Row.drew' ?_) | refine Row.far_off ?_ (by assumption) _ | refine Row.far_set ?_ (by first | (simp <;> done) | (simp; omega) | omega) _))
  replace r2 := Row.at r2 p4 (by rw [hp]; repeat' (first | (with_reducible exact r2) | (with_reducible refine Row.alloc' ?_ _) | (with_reducible refine Row.drewN ?_ _) | (with_reducible refine Row.drew' ?_) | refine Row.far_off ?_ (by assumption) _ | refine Row.far_set ?_ (by first | (simp <;> done) | (simp; omega) | omega) _))
  have zp4 : w3.heap.size ≤ p4.heap.size := (by rw [hp]; exact leA)
  clear hp O
  have O := O'
  clear O'
  have q_r_0 := B_r.cell 0 rfl
  have q_r_1 := B_r.cell 1 rfl
  have q_r_2 := B_r.cell 2 rfl
  have f_r_0 := B_r.frozen 0
  have f_r_1 := B_r.frozen 1
  have f_r_2 := B_r.frozen 2
  have q_r := B_r.lt
  have q_n_0 := B_n.cell 0 rfl
  have q_n_1 := B_n.cell 1 rfl
  have f_n_0 := B_n.frozen 0
  have f_n_1 := B_n.frozen 1
  have q_n := B_n.lt
  have q_l_0 := B_l.cell 0 rfl
  have f_l_0 := B_l.frozen 0
  have q_l := B_l.lt
  have q_q_0 := B_q.cell 0 rfl
  have q_q_1 := B_q.cell 1 rfl
  have q_q_2 := B_q.cell 2 rfl
  have f_q_0 := B_q.frozen 0
  have f_q_1 := B_q.frozen 1
  have f_q_2 := B_q.frozen 2
  have q_q := B_q.lt
  go_wp2
  refine bodyPost_ret (v := .tuple #[.agg #[.bool false, .slice none 0 0, .slice none 0 0], .bool false]) (by simp [results, Tryz.results6, go_sem, q_r_0, q_r_1, q_r_2]) rfl ⟨RetRB.zero rfl, Below.trans (b := p4) O oldB⟩
set_option maxRecDepth 100000 in
set_option maxHeartbeats 8000000 in
theorem impl_ParseRat_cut_no2 (s : ByteArray) (z : Int) (w : World) (b : s.size ≤ 1048576) (K : KT w) (sA sB : ByteArray) (d : Nat) (b1 b2 : Bool) (i : Nat) (hidx : Lib.indexByte s.data.toList 47 = (i : Int)) (hi : i < s.size) (e0 : s.extract 0 i = sA) (e1 : s.extract (i + 1) s.size = sB) (hz : zParseBigInt sA = z) (ht : rParseBigInt1 sA = b1) (hd : rParseNat sB = d) (hu : rParseNat1 sB = b2) (k1 : b1 = true) (k2 : b2 = false) :
    Calls Tryz.prog 6 #[.string s] w fun e w' => RetRB e w' w.heap.size (0, 0) false ∧ Old w w' := by
  subst k1
  subst k2
  have hlz : len (magZ z) ≤ 60 := by rw [← hz]; exact zParseBigInt_len _
  have HZ := Lib.hid hz
  have HT := Lib.hid ht
  clear hz ht
  have hld : len d ≤ 60 := by rw [← hd]; exact rParseNat_len _
  have HD := Lib.hid hd
  have HU := Lib.hid hu
  clear hd hu
  have HI := Lib.hid hidx
  clear hidx
  have HP : Hid (sA.size ≤ maxLen) := Lib.hid (by rw [← e0, ByteArray.size_extract]; unfold maxLen; omega)
  have HQ : Hid (sB.size ≤ maxLen) := Lib.hid (by rw [← e1, ByteArray.size_extract]; unfold maxLen; omega)
  have E0 := Lib.hid e0
  have E1 := Lib.hid e1
  clear e0 e1
  have O : Old w (w.alloc (.cells #[.bool false, .slice none 0 0, .slice none 0 0] 26)) := oldB
  have B_r : Bx (w.alloc (.cells #[.bool false, .slice none 0 0, .slice none 0 0] 26)) (w.heap.size) #[.bool false, .slice none 0 0, .slice none 0 0] := by have h := (Bx.new w #[.bool false, .slice none 0 0, .slice none 0 0] 26); simpa using h
  have ze : w.heap.size + 1 ≤ (w.alloc (.cells #[.bool false, .slice none 0 0, .slice none 0 0] 26)).heap.size := (by simp)
  go_enter Tryz.func6, Tryz.ntmps6
  go_wp2_with fail
  refine callsNamed ?_
  intro p1 hp
  have O' : Old w p1 := (by rw [hp]; exact Below.trans (b := (w.alloc (.cells #[.bool false, .slice none 0 0, .slice none 0 0] 26))) O oldB)
  replace B_r : Bx p1 (w.heap.size) #[.bool false, .slice none 0 0, .slice none 0 0] := (by rw [hp]; repeat' (first | (with_reducible exact B_r) | (with_reducible refine Bx.alloc ?_ _) | (with_reducible refine Bx.drewN ?_ _) | (with_reducible refine Bx.drew ?_) | refine Bx.far ?_ (by first | assumption | (simp <;> done) | (simp; omega) | omega) _))
  have zp1 : (w.alloc (.cells #[.bool false, .slice none 0 0, .slice none 0 0] 26)).heap.size ≤ p1.heap.size := (by rw [hp]; exact leA)
  clear hp O
  have O := O'
  clear O'
  refine (cut_yes s 47 i _ b HI.out hi).mono ?_
  rintro e w1 ⟨rfl, o1⟩
  replace B_r := Bx.old B_r o1
  replace O := Old.trans O o1
  have zw1 := o1.size
  rw [E0.out, E1.out]
  have q_r_0 := B_r.cell 0 rfl
  have q_r_1 := B_r.cell 1 rfl
  have q_r_2 := B_r.cell 2 rfl
  have f_r_0 := B_r.frozen 0
  have f_r_1 := B_r.frozen 1
  have f_r_2 := B_r.frozen 2
  have q_r := B_r.lt
  go_wp2_with fail
  refine callsNamed ?_
  intro p2 hp
  clear q_r_0 q_r_1 q_r_2 f_r_0 f_r_1 f_r_2 q_r
  have O' : Old w p2 := (by rw [hp]; exact Below.trans (b := w1) O oldB)
  replace B_r : Bx p2 (w.heap.size) #[.bool false, .slice none 0 0, .slice none 0 0] := (by rw [hp]; repeat' (first | (with_reducible exact B_r) | (with_reducible refine Bx.alloc ?_ _) | (with_reducible refine Bx.drewN ?_ _) | (with_reducible refine Bx.drew ?_) | refine Bx.far ?_ (by first | assumption | (simp <;> done) | (simp; omega) | omega) _))
  have zp2 : w1.heap.size ≤ p2.heap.size := (by rw [hp]; exact leA)
  clear hp O
  have O := O'
  clear O'
  refine (implBig_c sA z true _ HP.out HZ.out HT.out).mono ?_
  rintro e w2 ⟨⟨A1, c1, rfl, r1⟩, o2⟩
  replace B_r := Bx.old B_r o2
  replace O := Old.trans O o2
  have zw2 := o2.size
  replace r1 := Row.more (lo' := p2.heap.size) r1 leA
  have lim_r1 := Row.lim r1
  have q_r_0 := B_r.cell 0 rfl
  have q_r_1 := B_r.cell 1 rfl
  have q_r_2 := B_r.cell 2 rfl
  have f_r_0 := B_r.frozen 0
  have f_r_1 := B_r.frozen 1
  have f_r_2 := B_r.frozen 2
  have q_r := B_r.lt
  go_wp2_with fail
  refine callsNamed ?_
  intro p3 hp
  clear q_r_0 q_r_1 q_r_2 f_r_0 f_r_1 f_r_2 q_r
  have O' : Old w p3 := (by rw [hp]; exact Below.trans (b := w2) O oldB)
  replace B_r : Bx p3 (w.heap.size) #[.bool false, .slice none 0 0, .slice none 0 0] := (by rw [hp]; repeat' (first | (with_reducible exact B_r) | (with_reducible refine Bx.alloc ?_ _) | (with_reducible refine Bx.drewN ?_ _) | (with_reducible refine Bx.drew ?_) | refine Bx.far ?_ (by first | assumption | (simp <;> done) | (simp; omega) | omega) _))
  replace r1 := Row.at r1 p3 (by rw [hp]; repeat' (first | (with_reducible exact r1) | (with_reducible refine Row.alloc' ?_ _) | (with_reducible refine Row.drewN ?_ _) | (with_reducible refine Row.drew' ?_) | refine Row.far_off ?_ (by assumption) _ | refine Row.far_set ?_ (by first | (simp <;> done) | (simp; omega) | omega) _))
  have B_n : Bx p3 (w2.heap.size) #[.bool (sgnZ z), .slice A1 (len (magZ z)) c1] := (by rw [hp]; repeat' (first | (exact Bx.newAt3 (by first | rfl | (simp <;> done))) | (exact Bx.put2 (Bx.newAt3 (by first | rfl | (simp <;> done))) _ _) | (with_reducible refine Bx.alloc ?_ _) | (with_reducible refine Bx.drewN ?_ _) | (with_reducible refine Bx.drew ?_) | refine Bx.far ?_ (by first | assumption | (simp <;> done) | (simp; omega) | omega) _))
  have lt_n := B_n.lt
  have ne_n_r : ¬ (w2.heap.size = w.heap.size) := by omega
  have en_n_r : ¬ (w.heap.size = w2.heap.size) := by omega
  have B_l : Bx p3 (w2.heap.size + 1) #[.int .i64 1] := (by rw [hp]; repeat' (first | (exact Bx.newAt3 (by first | rfl | (simp <;> done))) | (with_reducible refine Bx.alloc ?_ _) | (with_reducible refine Bx.drewN ?_ _) | (with_reducible refine Bx.drew ?_) | refine Bx.far ?_ (by first | assumption | (simp <;> done) | (simp; omega) | omega) _))
  have lt_l := B_l.lt
  have ne_l_r : ¬ (w2.heap.size + 1 = w.heap.size) := by omega
  have en_l_r : ¬ (w.heap.size = w2.heap.size + 1) := by omega
  have ne_l_n : ¬ (w2.heap.size + 1 = w2.heap.size) := by omega
  have en_l_n : ¬ (w2.heap.size = w2.heap.size + 1) := by omega
  have B_q : Bx p3 (w2.heap.size + 1 + 1) #[.bool (sgnZ z), .slice A1 (len (magZ z)) c1, .slice (some ⟨w2.heap.size + 1, 0, none⟩) (len 1) 1] := (by rw [hp, one_len]; repeat' (first | (exact Bx.newAt3 (by first | rfl | (simp <;> done))) | (exact Bx.put3 (Bx.newAt3 (by first | rfl | (simp <;> done))) _ _ _) | (with_reducible refine Bx.alloc ?_ _) | (with_reducible refine Bx.drewN ?_ _) | (with_reducible refine Bx.drew ?_) | refine Bx.far ?_ (by first | assumption | (simp <;> done) | (simp; omega) | omega) _))
  have lt_q := B_q.lt
  have ne_q_r : ¬ (w2.heap.size + 1 + 1 = w.heap.size) := by omega
  have en_q_r : ¬ (w.heap.size = w2.heap.size + 1 + 1) := by omega
  have ne_q_n : ¬ (w2.heap.size + 1 + 1 = w2.heap.size) := by omega
  have en_q_n : ¬ (w2.heap.size = w2.heap.size + 1 + 1) := by omega
  have ne_q_l : ¬ (w2.heap.size + 1 + 1 = w2.heap.size + 1) := by omega
  have en_q_l : ¬ (w2.heap.size + 1 = w2.heap.size + 1 + 1) := by omega
  have zp3 : w2.heap.size ≤ p3.heap.size := (by rw [hp]; exact leA)
  clear hp O
  have O := O'
  clear O'
  have rl := one_box B_l (lo := w2.heap.size) (by omega)
  have off_r1 : Off (w2.heap.size + 1 + 1) A1 (len (magZ z)) := Lim.off lim_r1 (by omega)
  have off_rl : Off (w2.heap.size + 1 + 1) (some (⟨w2.heap.size + 1, 0, none⟩ : Addr)) (len 1) := Off.one (by omega)
  refine (implNat_c sB d false _ HQ.out HD.out HU.out).mono ?_
  rintro e w3 ⟨⟨A2, c2, rfl, r2⟩, o3⟩
  replace B_r := Bx.old B_r o3
  replace B_n := Bx.old B_n o3
  replace B_l := Bx.old B_l o3
  replace B_q := Bx.old B_q o3
  replace r1 := Row.below r1 o3 (Nat.le_refl _)
  replace rl := Row.below rl o3 (Nat.le_refl _)
  replace O := Old.trans O o3
  have zw3 := o3.size
  replace r2 := Row.more (lo' := p3.heap.size) r2 leA
  have lim_r2 := Row.lim r2
  have q_r_0 := B_r.cell 0 rfl
  have q_r_1 := B_r.cell 1 rfl
  have q_r_2 := B_r.cell 2 rfl
  have f_r_0 := B_r.frozen 0
  have f_r_1 := B_r.frozen 1
  have f_r_2 := B_r.frozen 2
  have q_r := B_r.lt
  have q_n_0 := B_n.cell 0 rfl
  have q_n_1 := B_n.cell 1 rfl
  have f_n_0 := B_n.frozen 0
  have f_n_1 := B_n.frozen 1
  have q_n := B_n.lt
  have q_l_0 := B_l.cell 0 rfl
  have f_l_0 := B_l.frozen 0
  have q_l := B_l.lt
  have q_q_0 := B_q.cell 0 rfl
  have q_q_1 := B_q.cell 1 rfl
  have q_q_2 := B_q.cell 2 rfl
  have f_q_0 := B_q.frozen 0
  have f_q_1 := B_q.frozen 1
  have f_q_2 := B_q.frozen 2
  have q_q := B_q.lt
  go_upto_region 7 with fail
  refine wpNamed ?_
  intro p4 hp
  clear q_r_0 q_r_1 q_r_2 f_r_0 f_r_1 f_r_2 q_r q_n_0 q_n_1 f_n_0 f_n_1 q_n q_l_0 f_l_0 q_l q_q_0 q_q_1 q_q_2 f_q_0 f_q_1 f_q_2 q_q
  have O' : Old w p4 := (by rw [hp]; exact Below.trans (b := w3) O oldB)
  replace B_r : Bx p4 (w.heap.size) #[.bool false, .slice none 0 0, .slice none 0 0] := (by rw [hp]; repeat' (first | (with_reducible exact B_r) | (with_reducible refine Bx.alloc ?_ _) | (with_reducible refine Bx.drewN ?_ _) | (with_reducible refine Bx.drew ?_) | refine Bx.far ?_ (by first | assumption | (simp <;> done) | (simp; omega) | omega) _))
  replace B_n : Bx p4 (w2.heap.size) #[.bool (sgnZ z), .slice A1 (len (magZ z)) c1] := (by rw [hp]; repeat' (first | (with_reducible exact B_n) | (with_reducible refine Bx.alloc ?_ _) | (with_reducible refine Bx.drewN ?_ _) | (with_reducible refine Bx.drew ?_) | refine Bx.far ?_ (by first | assumption | (simp <;> done) | (simp; omega) | omega) _))
  replace B_l : Bx p4 (w2.heap.size + 1) #[.int .i64 1] := (by rw [hp]; repeat' (first | (with_reducible exact B_l) | (with_reducible refine Bx.alloc ?_ _) | (with_reducible refine Bx.drewN ?_ _) | (with_reducible refine Bx.drew ?_) | refine Bx.far ?_ (by first | assumption | (simp <;> done) | (simp; omega) | omega) _))
  replace B_q : Bx p4 (w2.heap.size + 1 + 1) #[.bool (sgnZ z), .slice A1 (len (magZ z)) c1, .slice A2 (len d) c2] := (by rw [hp]; repeat' (first | (with_reducible exact B_q) | (with_reducible refine Bx.alloc ?_ _) | (with_reducible refine Bx.drewN ?_ _) | (with_reducible refine Bx.drew ?_) | refine Bx.set (cs := #[.bool (sgnZ z), .slice A1 (len (magZ z)) c1, .slice (some ⟨w2.heap.size + 1, 0, none⟩) (len 1) 1]) ?_ 2 _ | refine Bx.far ?_ (by first | assumption | (simp <;> done) | (simp; omega) | omega) _))
  replace r1 := Row.at r1 p4 (by rw [hp]; repeat' (first | (with_reducible exact r1) | (with_reducible refine Row.alloc' ?_ _) | (with_reducible refine Row.drewN ?_ _) | (with_reducible refine Row.drew' ?_) | refine Row.far_off ?_ (by assumption) _ | refine Row.far_set ?_ (by first | (simp <;> done) | (simp; omega) | omega) _))
  replace rl := Row.at rl p4 (by rw [hp]; repeat' (first | (with_reducible exact rl) | (with_reducible refine Row.alloc' ?_ _) | (with_reducible refine Row.drewN ?_ _) | (with_reducible refine Row.drew' ?_) | refine Row.far_off ?_ (by assumption) _ | refine Row.far_set ?_ (by first | (simp <;> done) | (simp; omega) | omega) _))
  replace r2 := Row.at r2 p4 (by rw [hp]; repeat' (first | (with_reducible exact r2) | (with_reducible refine Row.alloc' ?_ _) | (with_reducible refine Row.drewN ?_ _) | (with_reducible refine Row.drew' ?_) | refine Row.far_off ?_ (by assumption) _ | refine Row.far_set ?_ (by first | (simp <;> done) | (simp; omega) | omega) _))
  have zp4 : w3.heap.size ≤ p4.heap.size := (by rw [hp]; exact leA)
  clear hp O
  have O := O'
  clear O'
  have q_r_0 := B_r.cell 0 rfl
  have q_r_1 := B_r.cell 1 rfl
  have q_r_2 := B_r.cell 2 rfl
  have f_r_0 := B_r.frozen 0
  have f_r_1 := B_r.frozen 1
  have f_r_2 := B_r.frozen 2
  have q_r := B_r.lt
  have q_n_0 := B_n.cell 0 rfl
  have q_n_1 := B_n.cell 1 rfl
  have f_n_0 := B_n.frozen 0
  have f_n_1 := B_n.frozen 1
  have q_n := B_n.lt
  have q_l_0 := B_l.cell 0 rfl
  have f_l_0 := B_l.frozen 0
  have q_l := B_l.lt
  have q_q_0 := B_q.cell 0 rfl
  have q_q_1 := B_q.cell 1 rfl
  have q_q_2 := B_q.cell 2 rfl
  have f_q_0 := B_q.frozen 0
  have f_q_1 := B_q.frozen 1
  have f_q_2 := B_q.frozen 2
  have q_q := B_q.lt
  go_wp2
  refine bodyPost_ret (v := .tuple #[.agg #[.bool false, .slice none 0 0, .slice none 0 0], .bool false]) (by simp [results, Tryz.results6, go_sem, q_r_0, q_r_1, q_r_2]) rfl ⟨RetRB.zero rfl, Below.trans (b := p4) O oldB⟩
set_option maxRecDepth 100000 in
set_option maxHeartbeats 8000000 in
theorem impl_ParseRat_cut_no3 (s : ByteArray) (z : Int) (w : World) (b : s.size ≤ 1048576) (K : KT w) (sA sB : ByteArray) (d : Nat) (b1 b2 : Bool) (i : Nat) (hidx : Lib.indexByte s.data.toList 47 = (i : Int)) (hi : i < s.size) (e0 : s.extract 0 i = sA) (e1 : s.extract (i + 1) s.size = sB) (hz : zParseBigInt sA = z) (ht : rParseBigInt1 sA = b1) (hd : rParseNat sB = d) (hu : rParseNat1 sB = b2) (k1 : b1 = true) (k2 : b2 = true) (k3 : ¬ okR (sgnZ z) (len (magZ z)) (digI (magZ z)) (len d) (digI d)) :
    Calls Tryz.prog 6 #[.string s] w fun e w' => RetRB e w' w.heap.size (0, 0) false ∧ Old w w' := by
  subst k1
  subst k2
  have hlz : len (magZ z) ≤ 60 := by rw [← hz]; exact zParseBigInt_len _
  have HZ := Lib.hid hz
  have HT := Lib.hid ht
  clear hz ht
  have hld : len d ≤ 60 := by rw [← hd]; exact rParseNat_len _
  have HD := Lib.hid hd
  have HU := Lib.hid hu
  clear hd hu
  have HI := Lib.hid hidx
  clear hidx
  have HP : Hid (sA.size ≤ maxLen) := Lib.hid (by rw [← e0, ByteArray.size_extract]; unfold maxLen; omega)
  have HQ : Hid (sB.size ≤ maxLen) := Lib.hid (by rw [← e1, ByteArray.size_extract]; unfold maxLen; omega)
  have E0 := Lib.hid e0
  have E1 := Lib.hid e1
  clear e0 e1
  have K3 := Lib.hid k3
  clear k3
  have O : Old w (w.alloc (.cells #[.bool false, .slice none 0 0, .slice none 0 0] 26)) := oldB
  have B_r : Bx (w.alloc (.cells #[.bool false, .slice none 0 0, .slice none 0 0] 26)) (w.heap.size) #[.bool false, .slice none 0 0, .slice none 0 0] := by have h := (Bx.new w #[.bool false, .slice none 0 0, .slice none 0 0] 26); simpa using h
  have ze : w.heap.size + 1 ≤ (w.alloc (.cells #[.bool false, .slice none 0 0, .slice none 0 0] 26)).heap.size := (by simp)
  go_enter Tryz.func6, Tryz.ntmps6
  go_wp2_with fail
  refine callsNamed ?_
  intro p1 hp
  have O' : Old w p1 := (by rw [hp]; exact Below.trans (b := (w.alloc (.cells #[.bool false, .slice none 0 0, .slice none 0 0] 26))) O oldB)
  replace B_r : Bx p1 (w.heap.size) #[.bool false, .slice none 0 0, .slice none 0 0] := (by rw [hp]; repeat' (first | (with_reducible exact B_r) | (with_reducible refine Bx.alloc ?_ _) | (with_reducible refine Bx.drewN ?_ _) | (with_reducible refine Bx.drew ?_) | refine Bx.far ?_ (by first | assumption | (simp <;> done) | (simp; omega) | omega) _))
  have zp1 : (w.alloc (.cells #[.bool false, .slice none 0 0, .slice none 0 0] 26)).heap.size ≤ p1.heap.size := (by rw [hp]; exact leA)
  clear hp O
  have O := O'
  clear O'
  refine (cut_yes s 47 i _ b HI.out hi).mono ?_
  rintro e w1 ⟨rfl, o1⟩
  replace B_r := Bx.old B_r o1
  replace O := Old.trans O o1
  have zw1 := o1.size
  rw [E0.out, E1.out]
  have q_r_0 := B_r.cell 0 rfl
  have q_r_1 := B_r.cell 1 rfl
  have q_r_2 := B_r.cell 2 rfl
  have f_r_0 := B_r.frozen 0
  have f_r_1 := B_r.frozen 1
  have f_r_2 := B_r.frozen 2
  have q_r := B_r.lt
  go_wp2_with fail
  refine callsNamed ?_
  intro p2 hp
  clear q_r_0 q_r_1 q_r_2 f_r_0 f_r_1 f_r_2 q_r
  have O' : Old w p2 := (by rw [hp]; exact Below.trans (b := w1) O oldB)
  replace B_r : Bx p2 (w.heap.size) #[.bool false, .slice none 0 0, .slice none 0 0] := (by rw [hp]; repeat' (first | (with_reducible exact B_r) | (with_reducible refine Bx.alloc ?_ _) | (with_reducible refine Bx.drewN ?_ _) | (with_reducible refine Bx.drew ?_) | refine Bx.far ?_ (by first | assumption | (simp <;> done) | (simp; omega) | omega) _))
  have zp2 : w1.heap.size ≤ p2.heap.size := (by rw [hp]; exact leA)
  clear hp O
  have O := O'
  clear O'
  refine (implBig_c sA z true _ HP.out HZ.out HT.out).mono ?_
  rintro e w2 ⟨⟨A1, c1, rfl, r1⟩, o2⟩
  replace B_r := Bx.old B_r o2
  replace O := Old.trans O o2
  have zw2 := o2.size
  replace r1 := Row.more (lo' := p2.heap.size) r1 leA
  have lim_r1 := Row.lim r1
  have q_r_0 := B_r.cell 0 rfl
  have q_r_1 := B_r.cell 1 rfl
  have q_r_2 := B_r.cell 2 rfl
  have f_r_0 := B_r.frozen 0
  have f_r_1 := B_r.frozen 1
  have f_r_2 := B_r.frozen 2
  have q_r := B_r.lt
  go_wp2_with fail
  refine callsNamed ?_
  intro p3 hp
  clear q_r_0 q_r_1 q_r_2 f_r_0 f_r_1 f_r_2 q_r
  have O' : Old w p3 := (by rw [hp]; exact Below.trans (b := w2) O oldB)
  replace B_r : Bx p3 (w.heap.size) #[.bool false, .slice none 0 0, .slice none 0 0] := (by rw [hp]; repeat' (first | (with_reducible exact B_r) | (with_reducible refine Bx.alloc ?_ _) | (with_reducible refine Bx.drewN ?_ _) | (with_reducible refine Bx.drew ?_) | refine Bx.far ?_ (by first | assumption | (simp <;> done) | (simp; omega) | omega) _))
  replace r1 := Row.at r1 p3 (by rw [hp]; repeat' (first | (with_reducible exact r1) | (with_reducible refine Row.alloc' ?_ _) | (with_reducible refine Row.drewN ?_ _) | (with_reducible refine Row.drew' ?_) | refine Row.far_off ?_ (by assumption) _ | refine Row.far_set ?_ (by first | (simp <;> done) | (simp; omega) | omega) _))
  have B_n : Bx p3 (w2.heap.size) #[.bool (sgnZ z), .slice A1 (len (magZ z)) c1] := (by rw [hp]; repeat' (first | (exact Bx.newAt3 (by first | rfl | (simp <;> done))) | (exact Bx.put2 (Bx.newAt3 (by first | rfl | (simp <;> done))) _ _) | (with_reducible refine Bx.alloc ?_ _) | (with_reducible refine Bx.drewN ?_ _) | (with_reducible refine Bx.drew ?_) | refine Bx.far ?_ (by first | assumption | (simp <;> done) | (simp; omega) | omega) _))
  have lt_n := B_n.lt
  have ne_n_r : ¬ (w2.heap.size = w.heap.size) := by omega
  have en_n_r : ¬ (w.heap.size = w2.heap.size) := by omega
  have B_l : Bx p3 (w2.heap.size + 1) #[.int .i64 1] := (by rw [hp]; repeat' (first | (exact Bx.newAt3 (by first | rfl | (simp <;> done))) | (with_reducible refine Bx.alloc ?_ _) | (with_reducible refine Bx.drewN ?_ _) | (with_reducible refine Bx.drew ?_) | refine Bx.far ?_ (by first | assumption | (simp <;> done) | (simp; omega) | omega) _))
  have lt_l := B_l.lt
  have ne_l_r : ¬ (w2.heap.size + 1 = w.heap.size) := by omega
  have en_l_r : ¬ (w.heap.size = w2.heap.size + 1) := by omega
  have ne_l_n : ¬ (w2.heap.size + 1 = w2.heap.size) := by omega
  have en_l_n : ¬ (w2.heap.size = w2.heap.size + 1) := by omega
  have B_q : Bx p3 (w2.heap.size + 1 + 1) #[.bool (sgnZ z), .slice A1 (len (magZ z)) c1, .slice (some ⟨w2.heap.size + 1, 0, none⟩) (len 1) 1] := (by rw [hp, one_len]; repeat' (first | (exact Bx.newAt3 (by first | rfl | (simp <;> done))) | (exact Bx.put3 (Bx.newAt3 (by first | rfl | (simp <;> done))) _ _ _) | (with_reducible refine Bx.alloc ?_ _) | (with_reducible refine Bx.drewN ?_ _) | (with_reducible refine Bx.drew ?_) | refine Bx.far ?_ (by first | assumption | (simp <;> done) | (simp; omega) | omega) _))
  have lt_q := B_q.lt
  have ne_q_r : ¬ (w2.heap.size + 1 + 1 = w.heap.size) := by omega
  have en_q_r : ¬ (w.heap.size = w2.heap.size + 1 + 1) := by omega
  have ne_q_n : ¬ (w2.heap.size + 1 + 1 = w2.heap.size) := by omega
  have en_q_n : ¬ (w2.heap.size = w2.heap.size + 1 + 1) := by omega
  have ne_q_l : ¬ (w2.heap.size + 1 + 1 = w2.heap.size + 1) := by omega
  have en_q_l : ¬ (w2.heap.size + 1 = w2.heap.size + 1 + 1) := by omega
  have zp3 : w2.heap.size ≤ p3.heap.size := (by rw [hp]; exact leA)
  clear hp O
  have O := O'
  clear O'
  have rl := one_box B_l (lo := w2.heap.size) (by omega)
  have off_r1 : Off (w2.heap.size + 1 + 1) A1 (len (magZ z)) := Lim.off lim_r1 (by omega)
  have off_rl : Off (w2.heap.size + 1 + 1) (some (⟨w2.heap.size + 1, 0, none⟩ : Addr)) (len 1) := Off.one (by omega)
  refine (implNat_c sB d true _ HQ.out HD.out HU.out).mono ?_
  rintro e w3 ⟨⟨A2, c2, rfl, r2⟩, o3⟩
  replace B_r := Bx.old B_r o3
  replace B_n := Bx.old B_n o3
  replace B_l := Bx.old B_l o3
  replace B_q := Bx.old B_q o3
  replace r1 := Row.below r1 o3 (Nat.le_refl _)
  replace rl := Row.below rl o3 (Nat.le_refl _)
  replace O := Old.trans O o3
  have zw3 := o3.size
  replace r2 := Row.more (lo' := p3.heap.size) r2 leA
  have lim_r2 := Row.lim r2
  have q_r_0 := B_r.cell 0 rfl
  have q_r_1 := B_r.cell 1 rfl
  have q_r_2 := B_r.cell 2 rfl
  have f_r_0 := B_r.frozen 0
  have f_r_1 := B_r.frozen 1
  have f_r_2 := B_r.frozen 2
  have q_r := B_r.lt
  have q_n_0 := B_n.cell 0 rfl
  have q_n_1 := B_n.cell 1 rfl
  have f_n_0 := B_n.frozen 0
  have f_n_1 := B_n.frozen 1
  have q_n := B_n.lt
  have q_l_0 := B_l.cell 0 rfl
  have f_l_0 := B_l.frozen 0
  have q_l := B_l.lt
  have q_q_0 := B_q.cell 0 rfl
  have q_q_1 := B_q.cell 1 rfl
  have q_q_2 := B_q.cell 2 rfl
  have f_q_0 := B_q.frozen 0
  have f_q_1 := B_q.frozen 1
  have f_q_2 := B_q.frozen 2
  have q_q := B_q.lt
  go_wp2_with fail
  refine callsNamed ?_
  intro p4 hp
  clear q_r_0 q_r_1 q_r_2 f_r_0 f_r_1 f_r_2 q_r q_n_0 q_n_1 f_n_0 f_n_1 q_n q_l_0 f_l_0 q_l q_q_0 q_q_1 q_q_2 f_q_0 f_q_1 f_q_2 q_q
  have O' : Old w p4 := (by rw [hp]; exact Below.trans (b := w3) O oldB)
  replace B_r : Bx p4 (w.heap.size) #[.bool false, .slice none 0 0, .slice none 0 0] := (by rw [hp]; repeat' (first | (with_reducible exact B_r) | (with_reducible refine Bx.alloc ?_ _) | (with_reducible refine Bx.drewN ?_ _) | (with_reducible refine Bx.drew ?_) | refine Bx.far ?_ (by first | assumption | (simp <;> done) | (simp; omega) | omega) _))
  replace B_n : Bx p4 (w2.heap.size) #[.bool (sgnZ z), .slice A1 (len (magZ z)) c1] := (by rw [hp]; repeat' (first | (with_reducible exact B_n) | (with_reducible refine Bx.alloc ?_ _) | (with_reducible refine Bx.drewN ?_ _) | (with_reducible refine Bx.drew ?_) | refine Bx.far ?_ (by first | assumption | (simp <;> done) | (simp; omega) | omega) _))
  replace B_l : Bx p4 (w2.heap.size + 1) #[.int .i64 1] := (by rw [hp]; repeat' (first | (with_reducible exact B_l) | (with_reducible refine Bx.alloc ?_ _) | (with_reducible refine Bx.drewN ?_ _) | (with_reducible refine Bx.drew ?_) | refine Bx.far ?_ (by first | assumption | (simp <;> done) | (simp; omega) | omega) _))
  replace B_q : Bx p4 (w2.heap.size + 1 + 1) #[.bool (sgnZ z), .slice A1 (len (magZ z)) c1, .slice A2 (len d) c2] := (by rw [hp]; repeat' (first | (with_reducible exact B_q) | (with_reducible refine Bx.alloc ?_ _) | (with_reducible refine Bx.drewN ?_ _) | (with_reducible refine Bx.drew ?_) | refine Bx.set (cs := #[.bool (sgnZ z), .slice A1 (len (magZ z)) c1, .slice (some ⟨w2.heap.size + 1, 0, none⟩) (len 1) 1]) ?_ 2 _ | refine Bx.far ?_ (by first | assumption | (simp <;> done) | (simp; omega) | omega) _))
  replace r1 := Row.at r1 p4 (by rw [hp]; repeat' (first | (with_reducible exact r1) | (with_reducible refine Row.alloc' ?_ _) | (with_reducible refine Row.drewN ?_ _) | (with_reducible refine Row.drew' ?_) | refine Row.far_off ?_ (by assumption) _ | refine Row.far_set ?_ (by first | (simp <;> done) | (simp; omega) | omega) _))
  replace rl := Row.at rl p4 (by rw [hp]; repeat' (first | (with_reducible exact rl) | (with_reducible refine Row.alloc' ?_ _) | (with_reducible refine Row.drewN ?_ _) | (with_reducible refine Row.drew' ?_) | refine Row.far_off ?_ (by assumption) _ | refine Row.far_set ?_ (by first | (simp <;> done) | (simp; omega) | omega) _))
  replace r2 := Row.at r2 p4 (by rw [hp]; repeat' (first | (with_reducible exact r2) | (with_reducible refine Row.alloc' ?_ _) | (with_reducible refine Row.drewN ?_ _) | (with_reducible refine Row.drew' ?_) | refine Row.far_off ?_ (by assumption) _ | refine Row.far_set ?_ (by first | (simp <;> done) | (simp; omega) | omega) _))
  have zp4 : w3.heap.size ≤ p4.heap.size := (by rw [hp]; exact leA)
  clear hp O
  have O := O'
  clear O'
  refine (plain_to (by rw [rRatOk_no K3.out]) (impl_RatOk (sgnZ z) A1 (len (magZ z)) c1 _ (digI (magZ z)) A2 (len d) c2 _ (digI d) _ r1 r2 (by omega) (by omega))).mono ?_
  rintro e w4 ⟨rfl, o4⟩
  replace B_r := Bx.old B_r o4
  replace B_n := Bx.old B_n o4
  replace B_l := Bx.old B_l o4
  replace B_q := Bx.old B_q o4
  replace r1 := Row.below r1 o4 (Nat.le_refl _)
  replace rl := Row.below rl o4 (Nat.le_refl _)
  replace r2 := Row.below r2 o4 (Nat.le_refl _)
  replace O := Old.trans O o4
  have zw4 := o4.size
  have q_r_0 := B_r.cell 0 rfl
  have q_r_1 := B_r.cell 1 rfl
  have q_r_2 := B_r.cell 2 rfl
  have f_r_0 := B_r.frozen 0
  have f_r_1 := B_r.frozen 1
  have f_r_2 := B_r.frozen 2
  have q_r := B_r.lt
  have q_n_0 := B_n.cell 0 rfl
  have q_n_1 := B_n.cell 1 rfl
  have f_n_0 := B_n.frozen 0
  have f_n_1 := B_n.frozen 1
  have q_n := B_n.lt
  have q_l_0 := B_l.cell 0 rfl
  have f_l_0 := B_l.frozen 0
  have q_l := B_l.lt
  have q_q_0 := B_q.cell 0 rfl
  have q_q_1 := B_q.cell 1 rfl
  have q_q_2 := B_q.cell 2 rfl
  have f_q_0 := B_q.frozen 0
  have f_q_1 := B_q.frozen 1
  have f_q_2 := B_q.frozen 2
  have q_q := B_q.lt
  go_wp2
  refine bodyPost_ret (v := .tuple #[.agg #[.bool false, .slice none 0 0, .slice none 0 0], .bool false]) (by simp [results, Tryz.results6, go_sem, q_r_0, q_r_1, q_r_2]) rfl ⟨RetRB.zero rfl, Below.trans (b := w4) O oldB⟩
set_option maxRecDepth 100000 in
set_option maxHeartbeats 8000000 in
theorem impl_ParseRat_cut_no4 (s : ByteArray) (z : Int) (w : World) (b : s.size ≤ 1048576) (K : KT w) (sA sB : ByteArray) (d : Nat) (b1 b2 : Bool) (i : Nat) (hidx : Lib.indexByte s.data.toList 47 = (i : Int)) (hi : i < s.size) (e0 : s.extract 0 i = sA) (e1 : s.extract (i + 1) s.size = sB) (hz : zParseBigInt sA = z) (ht : rParseBigInt1 sA = b1) (hd : rParseNat sB = d) (hu : rParseNat1 sB = b2) (k1 : b1 = true) (k2 : b2 = true) (k3 : okR (sgnZ z) (len (magZ z)) (digI (magZ z)) (len d) (digI d)) (k4 : ¬ txQ z d = s) :
    Calls Tryz.prog 6 #[.string s] w fun e w' => RetRB e w' w.heap.size (0, 0) false ∧ Old w w' := by
  subst k1
  subst k2
  have hlz : len (magZ z) ≤ 60 := by rw [← hz]; exact zParseBigInt_len _
  have HZ := Lib.hid hz
  have HT := Lib.hid ht
  clear hz ht
  have hld : len d ≤ 60 := by rw [← hd]; exact rParseNat_len _
  have HD := Lib.hid hd
  have HU := Lib.hid hu
  clear hd hu
  have HI := Lib.hid hidx
  clear hidx
  have HP : Hid (sA.size ≤ maxLen) := Lib.hid (by rw [← e0, ByteArray.size_extract]; unfold maxLen; omega)
  have HQ : Hid (sB.size ≤ maxLen) := Lib.hid (by rw [← e1, ByteArray.size_extract]; unfold maxLen; omega)
  have E0 := Lib.hid e0
  have E1 := Lib.hid e1
  clear e0 e1
  have K3 := Lib.hid k3
  clear k3
  have hs3 := textQ_neq k4
  clear k4
  have O : Old w (w.alloc (.cells #[.bool false, .slice none 0 0, .slice none 0 0] 26)) := oldB
  have B_r : Bx (w.alloc (.cells #[.bool false, .slice none 0 0, .slice none 0 0] 26)) (w.heap.size) #[.bool false, .slice none 0 0, .slice none 0 0] := by have h := (Bx.new w #[.bool false, .slice none 0 0, .slice none 0 0] 26); simpa using h
  have ze : w.heap.size + 1 ≤ (w.alloc (.cells #[.bool false, .slice none 0 0, .slice none 0 0] 26)).heap.size := (by simp)
  go_enter Tryz.func6, Tryz.ntmps6
  go_wp2_with fail
  refine callsNamed ?_
  intro p1 hp
  have O' : Old w p1 := (by rw [hp]; exact Below.trans (b := (w.alloc (.cells #[.bool false, .slice none 0 0, .slice none 0 0] 26))) O oldB)
  replace B_r : Bx p1 (w.heap.size) #[.bool false, .slice none 0 0, .slice none 0 0] := (by rw [hp]; repeat' (first | (with_reducible exact B_r) | (with_reducible refine Bx.alloc ?_ _) | (with_reducible refine Bx.drewN ?_ _) | (with_reducible refine Bx.drew ?_) | refine Bx.far ?_ (by first | assumption | (simp <;> done) | (simp; omega) | omega) _))
  have zp1 : (w.alloc (.cells #[.bool false, .slice none 0 0, .slice none 0 0] 26)).heap.size ≤ p1.heap.size := (by rw [hp]; exact leA)
  clear hp O
  have O := O'
  clear O'
  refine (cut_yes s 47 i _ b HI.out hi).mono ?_
  rintro e w1 ⟨rfl, o1⟩
  replace B_r := Bx.old B_r o1
  replace O := Old.trans O o1
  have zw1 := o1.size
  rw [E0.out, E1.out]
  have q_r_0 := B_r.cell 0 rfl
  have q_r_1 := B_r.cell 1 rfl
  have q_r_2 := B_r.cell 2 rfl
  have f_r_0 := B_r.frozen 0
  have f_r_1 := B_r.frozen 1
  have f_r_2 := B_r.frozen 2
  have q_r := B_r.lt
  go_wp2_with fail
  refine callsNamed ?_
  intro p2 hp
  clear q_r_0 q_r_1 q_r_2 f_r_0 f_r_1 f_r_2 q_r
  have O' : Old w p2 := (by rw [hp]; exact Below.trans (b := w1) O oldB)
  replace B_r : Bx p2 (w.heap.size) #[.bool false, .slice none 0 0, .slice none 0 0] := (by rw [hp]; repeat' (first | (with_reducible exact B_r) | (with_reducible refine Bx.alloc ?_ _) | (with_reducible refine Bx.drewN ?_ _) | (with_reducible refine Bx.drew ?_) | refine Bx.far ?_ (by first | assumption | (simp <;> done) | (simp; omega) | omega) _))
  have zp2 : w1.heap.size ≤ p2.heap.size := (by rw [hp]; exact leA)
  clear hp O
  have O := O'
  clear O'
  refine (implBig_c sA z true _ HP.out HZ.out HT.out).mono ?_
  rintro e w2 ⟨⟨A1, c1, rfl, r1⟩, o2⟩
  replace B_r := Bx.old B_r o2
  replace O := Old.trans O o2
  have zw2 := o2.size
  replace r1 := Row.more (lo' := p2.heap.size) r1 leA
  have lim_r1 := Row.lim r1
  have q_r_0 := B_r.cell 0 rfl
  have q_r_1 := B_r.cell 1 rfl
  have q_r_2 := B_r.cell 2 rfl
  have f_r_0 := B_r.frozen 0
  have f_r_1 := B_r.frozen 1
  have f_r_2 := B_r.frozen 2
  have q_r := B_r.lt
  go_wp2_with fail
  refine callsNamed ?_
  intro p3 hp
  clear q_r_0 q_r_1 q_r_2 f_r_0 f_r_1 f_r_2 q_r
  have O' : Old w p3 := (by rw [hp]; exact Below.trans (b := w2) O oldB)
  replace B_r : Bx p3 (w.heap.size) #[.bool false, .slice none 0 0, .slice none 0 0] := (by rw [hp]; repeat' (first | (with_reducible exact B_r) | (with_reducible refine Bx.alloc ?_ _) | (with_reducible refine Bx.drewN ?_ _) | (with_reducible refine Bx.drew ?_) | refine Bx.far ?_ (by first | assumption | (simp <;> done) | (simp; omega) | omega) _))
  replace r1 := Row.at r1 p3 (by rw [hp]; repeat' (first | (with_reducible exact r1) | (with_reducible refine Row.alloc' ?_ _) | (with_reducible refine Row.drewN ?_ _) | (with_reducible refine Row.drew' ?_) | refine Row.far_off ?_ (by assumption) _ | refine Row.far_set ?_ (by first | (simp <;> done) | (simp; omega) | omega) _))
  have B_n : Bx p3 (w2.heap.size) #[.bool (sgnZ z), .slice A1 (len (magZ z)) c1] := (by rw [hp]; repeat' (first | (exact Bx.newAt3 (by first | rfl | (simp <;> done))) | (exact Bx.put2 (Bx.newAt3 (by first | rfl | (simp <;> done))) _ _) | (with_reducible refine Bx.alloc ?_ _) | (with_reducible refine Bx.drewN ?_ _) | (with_reducible refine Bx.drew ?_) | refine Bx.far ?_ (by first | assumption | (simp <;> done) | (simp; omega) | omega) _))
  have lt_n := B_n.lt
  have ne_n_r : ¬ (w2.heap.size = w.heap.size) := by omega
  have en_n_r : ¬ (w.heap.size = w2.heap.size) := by omega
  have B_l : Bx p3 (w2.heap.size + 1) #[.int .i64 1] := (by rw [hp]; repeat' (first | (exact Bx.newAt3 (by first | rfl | (simp <;> done))) | (with_reducible refine Bx.alloc ?_ _) | (with_reducible refine Bx.drewN ?_ _) | (with_reducible refine Bx.drew ?_) | refine Bx.far ?_ (by first | assumption | (simp <;> done) | (simp; omega) | omega) _))
  have lt_l := B_l.lt
  have ne_l_r : ¬ (w2.heap.size + 1 = w.heap.size) := by omega
  have en_l_r : ¬ (w.heap.size = w2.heap.size + 1) := by omega
  have ne_l_n : ¬ (w2.heap.size + 1 = w2.heap.size) := by omega
  have en_l_n : ¬ (w2.heap.size = w2.heap.size + 1) := by omega
  have B_q : Bx p3 (w2.heap.size + 1 + 1) #[.bool (sgnZ z), .slice A1 (len (magZ z)) c1, .slice (some ⟨w2.heap.size + 1, 0, none⟩) (len 1) 1] := (by rw [hp, one_len]; repeat' (first | (exact Bx.newAt3 (by first | rfl | (simp <;> done))) | (exact Bx.put3 (Bx.newAt3 (by first | rfl | (simp <;> done))) _ _ _) | (with_reducible refine Bx.alloc ?_ _) | (with_reducible refine Bx.drewN ?_ _) | (with_reducible refine Bx.drew ?_) | refine Bx.far ?_ (by first | assumption | (simp <;> done) | (simp; omega) | omega) _))
  have lt_q := B_q.lt
  have ne_q_r : ¬ (w2.heap.size + 1 + 1 = w.heap.size) := by omega
  have en_q_r : ¬ (w.heap.size = w2.heap.size + 1 + 1) := by omega
  have ne_q_n : ¬ (w2.heap.size + 1 + 1 = w2.heap.size) := by omega
  have en_q_n : ¬ (w2.heap.size = w2.heap.size + 1 + 1) := by omega
  have ne_q_l : ¬ (w2.heap.size + 1 + 1 = w2.heap.size + 1) := by omega
  have en_q_l : ¬ (w2.heap.size + 1 = w2.heap.size + 1 + 1) := by omega
  have zp3 : w2.heap.size ≤ p3.heap.size := (by rw [hp]; exact leA)
  clear hp O
  have O := O'
  clear O'
  have rl := one_box B_l (lo := w2.heap.size) (by omega)
  have off_r1 : Off (w2.heap.size + 1 + 1) A1 (len (magZ z)) := Lim.off lim_r1 (by omega)
  have off_rl : Off (w2.heap.size + 1 + 1) (some (⟨w2.heap.size + 1, 0, none⟩ : Addr)) (len 1) := Off.one (by omega)
  refine (implNat_c sB d true _ HQ.out HD.out HU.out).mono ?_
  rintro e w3 ⟨⟨A2, c2, rfl, r2⟩, o3⟩
  replace B_r := Bx.old B_r o3
  replace B_n := Bx.old B_n o3
  replace B_l := Bx.old B_l o3
  replace B_q := Bx.old B_q o3
  replace r1 := Row.below r1 o3 (Nat.le_refl _)
  replace rl := Row.below rl o3 (Nat.le_refl _)
  replace O := Old.trans O o3
  have zw3 := o3.size
  replace r2 := Row.more (lo' := p3.heap.size) r2 leA
  have lim_r2 := Row.lim r2
  have q_r_0 := B_r.cell 0 rfl
  have q_r_1 := B_r.cell 1 rfl
  have q_r_2 := B_r.cell 2 rfl
  have f_r_0 := B_r.frozen 0
  have f_r_1 := B_r.frozen 1
  have f_r_2 := B_r.frozen 2
  have q_r := B_r.lt
  have q_n_0 := B_n.cell 0 rfl
  have q_n_1 := B_n.cell 1 rfl
  have f_n_0 := B_n.frozen 0
  have f_n_1 := B_n.frozen 1
  have q_n := B_n.lt
  have q_l_0 := B_l.cell 0 rfl
  have f_l_0 := B_l.frozen 0
  have q_l := B_l.lt
  have q_q_0 := B_q.cell 0 rfl
  have q_q_1 := B_q.cell 1 rfl
  have q_q_2 := B_q.cell 2 rfl
  have f_q_0 := B_q.frozen 0
  have f_q_1 := B_q.frozen 1
  have f_q_2 := B_q.frozen 2
  have q_q := B_q.lt
  go_wp2_with fail
  refine callsNamed ?_
  intro p4 hp
  clear q_r_0 q_r_1 q_r_2 f_r_0 f_r_1 f_r_2 q_r q_n_0 q_n_1 f_n_0 f_n_1 q_n q_l_0 f_l_0 q_l q_q_0 q_q_1 q_q_2 f_q_0 f_q_1 f_q_2 q_q
  have O' : Old w p4 := (by rw [hp]; exact Below.trans (b := w3) O oldB)
  replace B_r : Bx p4 (w.heap.size) #[.bool false, .slice none 0 0, .slice none 0 0] := (by rw [hp]; repeat' (first | (with_reducible exact B_r) | (with_reducible refine Bx.alloc ?_ _) | (with_reducible refine Bx.drewN ?_ _) | (with_reducible refine Bx.drew ?_) | refine Bx.far ?_ (by first | assumption | (simp <;> done) | (simp; omega) | omega) _))
  replace B_n : Bx p4 (w2.heap.size) #[.bool (sgnZ z), .slice A1 (len (magZ z)) c1] := (by rw [hp]; repeat' (first | (with_reducible exact B_n) | (with_reducible refine Bx.alloc ?_ _) | (with_reducible refine Bx.drewN ?_ _) | (with_reducible refine Bx.drew ?_) | refine Bx.far ?_ (by first | assumption | (simp <;> done) | (simp; omega) | omega) _))
  replace B_l : Bx p4 (w2.heap.size + 1) #[.int .i64 1] := (by rw [hp]; repeat' (first | (with_reducible exact B_l) | (with_reducible refine Bx.alloc ?_ _) | (with_reducible refine Bx.drewN ?_ _) | (with_reducible refine Bx.drew ?_) | refine Bx.far ?_ (by first | assumption | (simp <;> done) | (simp; omega) | omega) _))
  replace B_q : Bx p4 (w2.heap.size + 1 + 1) #[.bool (sgnZ z), .slice A1 (len (magZ z)) c1, .slice A2 (len d) c2] := (by rw [hp]; repeat' (first | (with_reducible exact B_q) | (with_reducible refine Bx.alloc ?_ _) | (with_reducible refine Bx.drewN ?_ _) | (with_reducible refine Bx.drew ?_) | refine Bx.set (cs := #[.bool (sgnZ z), .slice A1 (len (magZ z)) c1, .slice (some ⟨w2.heap.size + 1, 0, none⟩) (len 1) 1]) ?_ 2 _ | refine Bx.far ?_ (by first | assumption | (simp <;> done) | (simp; omega) | omega) _))
  replace r1 := Row.at r1 p4 (by rw [hp]; repeat' (first | (with_reducible exact r1) | (with_reducible refine Row.alloc' ?_ _) | (with_reducible refine Row.drewN ?_ _) | (with_reducible refine Row.drew' ?_) | refine Row.far_off ?_ (by assumption) _ | refine Row.far_set ?_ (by first | (simp <;> done) | (simp; omega) | omega) _))
  replace rl := Row.at rl p4 (by rw [hp]; repeat' (first | (with_reducible exact rl) | (with_reducible refine Row.alloc' ?_ _) | (with_reducible refine Row.drewN ?_ _) | (with_reducible refine Row.drew' ?_) | refine Row.far_off ?_ (by assumption) _ | refine Row.far_set ?_ (by first | (simp <;> done) | (simp; omega) | omega) _))
  replace r2 := Row.at r2 p4 (by rw [hp]; repeat' (first | (with_reducible exact r2) | (with_reducible refine Row.alloc' ?_ _) | (with_reducible refine Row.drewN ?_ _) | (with_reducible refine Row.drew' ?_) | refine Row.far_off ?_ (by assumption) _ | refine Row.far_set ?_ (by first | (simp <;> done) | (simp; omega) | omega) _))
  have zp4 : w3.heap.size ≤ p4.heap.size := (by rw [hp]; exact leA)
  clear hp O
  have O := O'
  clear O'
  refine (plain_to (by rw [rRatOk_yes K3.out]) (impl_RatOk (sgnZ z) A1 (len (magZ z)) c1 _ (digI (magZ z)) A2 (len d) c2 _ (digI d) _ r1 r2 (by omega) (by omega))).mono ?_
  rintro e w4 ⟨rfl, o4⟩
  replace B_r := Bx.old B_r o4
  replace B_n := Bx.old B_n o4
  replace B_l := Bx.old B_l o4
  replace B_q := Bx.old B_q o4
  replace r1 := Row.below r1 o4 (Nat.le_refl _)
  replace rl := Row.below rl o4 (Nat.le_refl _)
  replace r2 := Row.below r2 o4 (Nat.le_refl _)
  replace O := Old.trans O o4
  have zw4 := o4.size
  have q_r_0 := B_r.cell 0 rfl
  have q_r_1 := B_r.cell 1 rfl
  have q_r_2 := B_r.cell 2 rfl
  have f_r_0 := B_r.frozen 0
  have f_r_1 := B_r.frozen 1
  have f_r_2 := B_r.frozen 2
  have q_r := B_r.lt
  have q_n_0 := B_n.cell 0 rfl
  have q_n_1 := B_n.cell 1 rfl
  have f_n_0 := B_n.frozen 0
  have f_n_1 := B_n.frozen 1
  have q_n := B_n.lt
  have q_l_0 := B_l.cell 0 rfl
  have f_l_0 := B_l.frozen 0
  have q_l := B_l.lt
  have q_q_0 := B_q.cell 0 rfl
  have q_q_1 := B_q.cell 1 rfl
  have q_q_2 := B_q.cell 2 rfl
  have f_q_0 := B_q.frozen 0
  have f_q_1 := B_q.frozen 1
  have f_q_2 := B_q.frozen 2
  have q_q := B_q.lt
  go_wp2_with fail
  refine callsNamed ?_
  intro p5 hp
  clear q_r_0 q_r_1 q_r_2 f_r_0 f_r_1 f_r_2 q_r q_n_0 q_n_1 f_n_0 f_n_1 q_n q_l_0 f_l_0 q_l q_q_0 q_q_1 q_q_2 f_q_0 f_q_1 f_q_2 q_q
  have O' : Old w p5 := (by rw [hp]; exact Below.trans (b := w4) O oldB)
  replace B_r : Bx p5 (w.heap.size) #[.bool false, .slice none 0 0, .slice none 0 0] := (by rw [hp]; repeat' (first | (with_reducible exact B_r) | (with_reducible refine Bx.alloc ?_ _) | (with_reducible refine Bx.drewN ?_ _) | (with_reducible refine Bx.drew ?_) | refine Bx.far ?_ (by first | assumption | (simp <;> done) | (simp; omega) | omega) _))
  replace B_n : Bx p5 (w2.heap.size) #[.bool (sgnZ z), .slice A1 (len (magZ z)) c1] := (by rw [hp]; repeat' (first | (with_reducible exact B_n) | (with_reducible refine Bx.alloc ?_ _) | (with_reducible refine Bx.drewN ?_ _) | (with_reducible refine Bx.drew ?_) | refine Bx.far ?_ (by first | assumption | (simp <;> done) | (simp; omega) | omega) _))
  replace B_l : Bx p5 (w2.heap.size + 1) #[.int .i64 1] := (by rw [hp]; repeat' (first | (with_reducible exact B_l) | (with_reducible refine Bx.alloc ?_ _) | (with_reducible refine Bx.drewN ?_ _) | (with_reducible refine Bx.drew ?_) | refine Bx.far ?_ (by first | assumption | (simp <;> done) | (simp; omega) | omega) _))
  replace B_q : Bx p5 (w2.heap.size + 1 + 1) #[.bool (sgnZ z), .slice A1 (len (magZ z)) c1, .slice A2 (len d) c2] := (by rw [hp]; repeat' (first | (with_reducible exact B_q) | (with_reducible refine Bx.alloc ?_ _) | (with_reducible refine Bx.drewN ?_ _) | (with_reducible refine Bx.drew ?_) | refine Bx.far ?_ (by first | assumption | (simp <;> done) | (simp; omega) | omega) _))
  replace r1 := Row.at r1 p5 (by rw [hp]; repeat' (first | (with_reducible exact r1) | (with_reducible refine Row.alloc' ?_ _) | (with_reducible refine Row.drewN ?_ _) | (with_reducible refine Row.drew' ?_) | refine Row.far_off ?_ (by assumption) _ | refine Row.far_set ?_ (by first | (simp <;> done) | (simp; omega) | omega) _))
  replace rl := Row.at rl p5 (by rw [hp]; repeat' (first | (with_reducible exact rl) | (with_reducible refine Row.alloc' ?_ _) | (with_reducible refine Row.drewN ?_ _) | (with_reducible refine Row.drew' ?_) | refine Row.far_off ?_ (by assumption) _ | refine Row.far_set ?_ (by first | (simp <;> done) | (simp; omega) | omega) _))
  replace r2 := Row.at r2 p5 (by rw [hp]; repeat' (first | (with_reducible exact r2) | (with_reducible refine Row.alloc' ?_ _) | (with_reducible refine Row.drewN ?_ _) | (with_reducible refine Row.drew' ?_) | refine Row.far_off ?_ (by assumption) _ | refine Row.far_set ?_ (by first | (simp <;> done) | (simp; omega) | omega) _))
  have zp5 : w4.heap.size ≤ p5.heap.size := (by rw [hp]; exact leA)
  clear hp O
  have O := O'
  clear O'
  refine (formatRat_any (sgnZ z) A1 (len (magZ z)) c1 _ (digI (magZ z)) A2 (len d) c2 _ (digI d) _ r1 r2 K3.out (KT.old K O)).mono ?_
  rintro e w5 ⟨rfl, o5⟩
  replace B_r := Bx.old B_r o5
  replace B_n := Bx.old B_n o5
  replace B_l := Bx.old B_l o5
  replace B_q := Bx.old B_q o5
  replace r1 := Row.below r1 o5 (Nat.le_refl _)
  replace rl := Row.below rl o5 (Nat.le_refl _)
  replace r2 := Row.below r2 o5 (Nat.le_refl _)
  replace O := Old.trans O o5
  have zw5 := o5.size
  rw [show ratT (sgnZ z) (len (magZ z)) (digI (magZ z)) (len d) (digI d) = txQ z d from rfl]
  have q_r_0 := B_r.cell 0 rfl
  have q_r_1 := B_r.cell 1 rfl
  have q_r_2 := B_r.cell 2 rfl
  have f_r_0 := B_r.frozen 0
  have f_r_1 := B_r.frozen 1
  have f_r_2 := B_r.frozen 2
  have q_r := B_r.lt
  have q_n_0 := B_n.cell 0 rfl
  have q_n_1 := B_n.cell 1 rfl
  have f_n_0 := B_n.frozen 0
  have f_n_1 := B_n.frozen 1
  have q_n := B_n.lt
  have q_l_0 := B_l.cell 0 rfl
  have f_l_0 := B_l.frozen 0
  have q_l := B_l.lt
  have q_q_0 := B_q.cell 0 rfl
  have q_q_1 := B_q.cell 1 rfl
  have q_q_2 := B_q.cell 2 rfl
  have f_q_0 := B_q.frozen 0
  have f_q_1 := B_q.frozen 1
  have f_q_2 := B_q.frozen 2
  have q_q := B_q.lt
  go_wp2
  refine bodyPost_ret (v := .tuple #[.agg #[.bool false, .slice none 0 0, .slice none 0 0], .bool false]) (by simp [results, Tryz.results6, go_sem, q_r_0, q_r_1, q_r_2]) rfl ⟨RetRB.zero rfl, Below.trans (b := w5) O oldB⟩
set_option maxRecDepth 100000 in
set_option maxHeartbeats 8000000 in
theorem impl_ParseRat_cut_yes (s : ByteArray) (z : Int) (w : World) (b : s.size ≤ 1048576) (K : KT w) (sA sB : ByteArray) (d : Nat) (b1 b2 : Bool) (i : Nat) (hidx : Lib.indexByte s.data.toList 47 = (i : Int)) (hi : i < s.size) (e0 : s.extract 0 i = sA) (e1 : s.extract (i + 1) s.size = sB) (hz : zParseBigInt sA = z) (ht : rParseBigInt1 sA = b1) (hd : rParseNat sB = d) (hu : rParseNat1 sB = b2) (k1 : b1 = true) (k2 : b2 = true) (k3 : okR (sgnZ z) (len (magZ z)) (digI (magZ z)) (len d) (digI d)) (k4 : txQ z d = s) :
    Calls Tryz.prog 6 #[.string s] w fun e w' => RetRB e w' w.heap.size (z, d) true ∧ Old w w' := by
  subst k1
  subst k2
  have hlz : len (magZ z) ≤ 60 := by rw [← hz]; exact zParseBigInt_len _
  have HZ := Lib.hid hz
  have HT := Lib.hid ht
  clear hz ht
  have hld : len d ≤ 60 := by rw [← hd]; exact rParseNat_len _
  have HD := Lib.hid hd
  have HU := Lib.hid hu
  clear hd hu
  have HI := Lib.hid hidx
  clear hidx
  have HP : Hid (sA.size ≤ maxLen) := Lib.hid (by rw [← e0, ByteArray.size_extract]; unfold maxLen; omega)
  have HQ : Hid (sB.size ≤ maxLen) := Lib.hid (by rw [← e1, ByteArray.size_extract]; unfold maxLen; omega)
  have E0 := Lib.hid e0
  have E1 := Lib.hid e1
  clear e0 e1
  have K3 := Lib.hid k3
  clear k3
  have K4 := Lib.hid k4
  clear k4
  have O : Old w (w.alloc (.cells #[.bool false, .slice none 0 0, .slice none 0 0] 26)) := oldB
  have B_r : Bx (w.alloc (.cells #[.bool false, .slice none 0 0, .slice none 0 0] 26)) (w.heap.size) #[.bool false, .slice none 0 0, .slice none 0 0] := by have h := (Bx.new w #[.bool false, .slice none 0 0, .slice none 0 0] 26); simpa using h
  have ze : w.heap.size + 1 ≤ (w.alloc (.cells #[.bool false, .slice none 0 0, .slice none 0 0] 26)).heap.size := (by simp)
  go_enter Tryz.func6, Tryz.ntmps6
  go_wp2_with fail
  refine callsNamed ?_
  intro p1 hp
  have O' : Old w p1 := (by rw [hp]; exact Below.trans (b := (w.alloc (.cells #[.bool false, .slice none 0 0, .slice none 0 0] 26))) O oldB)
  replace B_r : Bx p1 (w.heap.size) #[.bool false, .slice none 0 0, .slice none 0 0] := (by rw [hp]; repeat' (first | (with_reducible exact B_r) | (with_reducible refine Bx.alloc ?_ _) | (with_reducible refine Bx.drewN ?_ _) | (with_reducible refine Bx.drew ?_) | refine Bx.far ?_ (by first | assumption | (simp <;> done) | (simp; omega) | omega) _))
  have zp1 : (w.alloc (.cells #[.bool false, .slice none 0 0, .slice none 0 0] 26)).heap.size ≤ p1.heap.size := (by rw [hp]; exact leA)
  clear hp O
  have O := O'
  clear O'
  refine (cut_yes s 47 i _ b HI.out hi).mono ?_
  rintro e w1 ⟨rfl, o1⟩
  replace B_r := Bx.old B_r o1
  replace O := Old.trans O o1
  have zw1 := o1.size
  rw [E0.out, E1.out]
  have q_r_0 := B_r.cell 0 rfl
  have q_r_1 := B_r.cell 1 rfl
  have q_r_2 := B_r.cell 2 rfl
  have f_r_0 := B_r.frozen 0
  have f_r_1 := B_r.frozen 1
  have f_r_2 := B_r.frozen 2
  have q_r := B_r.lt
  go_wp2_with fail
  refine callsNamed ?_
  intro p2 hp
  clear q_r_0 q_r_1 q_r_2 f_r_0 f_r_1 f_r_2 q_r
  have O' : Old w p2 := (by rw [hp]; exact Below.trans (b := w1) O oldB)
  replace B_r : Bx p2 (w.heap.size) #[.bool false, .slice none 0 0, .slice none 0 0] := (by rw [hp]; repeat' (first | (with_reducible exact B_r) | (with_reducible refine Bx.alloc ?_ _) | (with_reducible refine Bx.drewN ?_ _) | (with_reducible refine Bx.drew ?_) | refine Bx.far ?_ (by first | assumption | (simp <;> done) | (simp; omega) | omega) _))
  have zp2 : w1.heap.size ≤ p2.heap.size := (by rw [hp]; exact leA)
  clear hp O
  have O := O'
  clear O'
  refine (implBig_c sA z true _ HP.out HZ.out HT.out).mono ?_
  rintro e w2 ⟨⟨A1, c1, rfl, r1⟩, o2⟩
  replace B_r := Bx.old B_r o2
  replace O := Old.trans O o2
  have zw2 := o2.size
  replace r1 := Row.more (lo' := p2.heap.size) r1 leA
  have lim_r1 := Row.lim r1
  have q_r_0 := B_r.cell 0 rfl
  have q_r_1 := B_r.cell 1 rfl
  have q_r_2 := B_r.cell 2 rfl
  have f_r_0 := B_r.frozen 0
  have f_r_1 := B_r.frozen 1
  have f_r_2 := B_r.frozen 2
  have q_r := B_r.lt
  go_wp2_with fail
  refine callsNamed ?_
  intro p3 hp
  clear q_r_0 q_r_1 q_r_2 f_r_0 f_r_1 f_r_2 q_r
  have O' : Old w p3 := (by rw [hp]; exact Below.trans (b := w2) O oldB)
  replace B_r : Bx p3 (w.heap.size) #[.bool false, .slice none 0 0, .slice none 0 0] := (by rw [hp]; repeat' (first | (with_reducible exact B_r) | (with_reducible refine Bx.alloc ?_ _) | (with_reducible refine Bx.drewN ?_ _) | (with_reducible refine Bx.drew ?_) | refine Bx.far ?_ (by first | assumption | (simp <;> done) | (simp; omega) | omega) _))
  replace r1 := Row.at r1 p3 (by rw [hp]; repeat' (first | (with_reducible exact r1) | (with_reducible refine Row.alloc' ?_ _) | (with_reducible refine Row.drewN ?_ _) | (with_reducible refine Row.drew' ?_) | refine Row.far_off ?_ (by assumption) _ | refine Row.far_set ?_ (by first | (simp <;> done) | (simp; omega) | omega) _))
  have B_n : Bx p3 (w2.heap.size) #[.bool (sgnZ z), .slice A1 (len (magZ z)) c1] := (by rw [hp]; repeat' (first | (exact Bx.newAt3 (by first | rfl | (simp <;> done))) | (exact Bx.put2 (Bx.newAt3 (by first | rfl | (simp <;> done))) _ _) | (with_reducible refine Bx.alloc ?_ _) | (with_reducible refine Bx.drewN ?_ _) | (with_reducible refine Bx.drew ?_) | refine Bx.far ?_ (by first | assumption | (simp <;> done) | (simp; omega) | omega) _))
  have lt_n := B_n.lt
  have ne_n_r : ¬ (w2.heap.size = w.heap.size) := by omega
  have en_n_r : ¬ (w.heap.size = w2.heap.size) := by omega
  have B_l : Bx p3 (w2.heap.size + 1) #[.int .i64 1] := (by rw [hp]; repeat' (first | (exact Bx.newAt3 (by first | rfl | (simp <;> done))) | (with_reducible refine Bx.alloc ?_ _) | (with_reducible refine Bx.drewN ?_ _) | (with_reducible refine Bx.drew ?_) | refine Bx.far ?_ (by first | assumption | (simp <;> done) | (simp; omega) | omega) _))
  have lt_l := B_l.lt
  have ne_l_r : ¬ (w2.heap.size + 1 = w.heap.size) := by omega
  have en_l_r : ¬ (w.heap.size = w2.heap.size + 1) := by omega
  have ne_l_n : ¬ (w2.heap.size + 1 = w2.heap.size) := by omega
  have en_l_n : ¬ (w2.heap.size = w2.heap.size + 1) := by omega
  have B_q : Bx p3 (w2.heap.size + 1 + 1) #[.bool (sgnZ z), .slice A1 (len (magZ z)) c1, .slice (some ⟨w2.heap.size + 1, 0, none⟩) (len 1) 1] := (by rw [hp, one_len]; repeat' (first | (exact Bx.newAt3 (by first | rfl | (simp <;> done))) | (exact Bx.put3 (Bx.newAt3 (by first | rfl | (simp <;> done))) _ _ _) | (with_reducible refine Bx.alloc ?_ _) | (with_reducible refine Bx.drewN ?_ _) | (with_reducible refine Bx.drew ?_) | refine Bx.far ?_ (by first | assumption | (simp <;> done) | (simp; omega) | omega) _))
  have lt_q := B_q.lt
  have ne_q_r : ¬ (w2.heap.size + 1 + 1 = w.heap.size) := by omega
  have en_q_r : ¬ (w.heap.size = w2.heap.size + 1 + 1) := by omega
  have ne_q_n : ¬ (w2.heap.size + 1 + 1 = w2.heap.size) := by omega
  have en_q_n : ¬ (w2.heap.size = w2.heap.size + 1 + 1) := by omega
  have ne_q_l : ¬ (w2.heap.size + 1 + 1 = w2.heap.size + 1) := by omega
  have en_q_l : ¬ (w2.heap.size + 1 = w2.heap.size + 1 + 1) := by omega
  have zp3 : w2.heap.size ≤ p3.heap.size := (by rw [hp]; exact leA)
  clear hp O
  have O := O'
  clear O'
  have rl := one_box B_l (lo := w2.heap.size) (by omega)
  have off_r1 : Off (w2.heap.size + 1 + 1) A1 (len (magZ z)) := Lim.off lim_r1 (by omega)
  have off_rl : Off (w2.heap.size + 1 + 1) (some (⟨w2.heap.size + 1, 0, none⟩ : Addr)) (len 1) := Off.one (by omega)
  refine (implNat_c sB d true _ HQ.out HD.out HU.out).mono ?_
  rintro e w3 ⟨⟨A2, c2, rfl, r2⟩, o3⟩
  replace B_r := Bx.old B_r o3
  replace B_n := Bx.old B_n o3
  replace B_l := Bx.old B_l o3
  replace B_q := Bx.old B_q o3
  replace r1 := Row.below r1 o3 (Nat.le_refl _)
  replace rl := Row.below rl o3 (Nat.le_refl _)
  replace O := Old.trans O o3
  have zw3 := o3.size
  replace r2 := Row.more (lo' := p3.heap.size) r2 leA
  have lim_r2 := Row.lim r2
  have q_r_0 := B_r.cell 0 rfl
  have q_r_1 := B_r.cell 1 rfl
  have q_r_2 := B_r.cell 2 rfl
  have f_r_0 := B_r.frozen 0
  have f_r_1 := B_r.frozen 1
  have f_r_2 := B_r.frozen 2
  have q_r := B_r.lt
  have q_n_0 := B_n.cell 0 rfl
  have q_n_1 := B_n.cell 1 rfl
  have f_n_0 := B_n.frozen 0
  have f_n_1 := B_n.frozen 1
  have q_n := B_n.lt
  have q_l_0 := B_l.cell 0 rfl
  have f_l_0 := B_l.frozen 0
  have q_l := B_l.lt
  have q_q_0 := B_q.cell 0 rfl
  have q_q_1 := B_q.cell 1 rfl
  have q_q_2 := B_q.cell 2 rfl
  have f_q_0 := B_q.frozen 0
  have f_q_1 := B_q.frozen 1
  have f_q_2 := B_q.frozen 2
  have q_q := B_q.lt
  go_wp2_with fail
  refine callsNamed ?_
  intro p4 hp
  clear q_r_0 q_r_1 q_r_2 f_r_0 f_r_1 f_r_2 q_r q_n_0 q_n_1 f_n_0 f_n_1 q_n q_l_0 f_l_0 q_l q_q_0 q_q_1 q_q_2 f_q_0 f_q_1 f_q_2 q_q
  have O' : Old w p4 := (by rw [hp]; exact Below.trans (b := w3) O oldB)
  replace B_r : Bx p4 (w.heap.size) #[.bool false, .slice none 0 0, .slice none 0 0] := (by rw [hp]; repeat' (first | (with_reducible exact B_r) | (with_reducible refine Bx.alloc ?_ _) | (with_reducible refine Bx.drewN ?_ _) | (with_reducible refine Bx.drew ?_) | refine Bx.far ?_ (by first | assumption | (simp <;> done) | (simp; omega) | omega) _))
  replace B_n : Bx p4 (w2.heap.size) #[.bool (sgnZ z), .slice A1 (len (magZ z)) c1] := (by rw [hp]; repeat' (first | (with_reducible exact B_n) | (with_reducible refine Bx.alloc ?_ _) | (with_reducible refine Bx.drewN ?_ _) | (with_reducible refine Bx.drew ?_) | refine Bx.far ?_ (by first | assumption | (simp <;> done) | (simp; omega) | omega) _))
  replace B_l : Bx p4 (w2.heap.size + 1) #[.int .i64 1] := (by rw [hp]; repeat' (first | (with_reducible exact B_l) | (with_reducible refine Bx.alloc ?_ _) | (with_reducible refine Bx.drewN ?_ _) | (with_reducible refine Bx.drew ?_) | refine Bx.far ?_ (by first | assumption | (simp <;> done) | (simp; omega) | omega) _))
  replace B_q : Bx p4 (w2.heap.size + 1 + 1) #[.bool (sgnZ z), .slice A1 (len (magZ z)) c1, .slice A2 (len d) c2] := (by rw [hp]; repeat' (first | (with_reducible exact B_q) | (with_reducible refine Bx.alloc ?_ _) | (with_reducible refine Bx.drewN ?_ _) | (with_reducible refine Bx.drew ?_) | refine Bx.set (cs := #[.bool (sgnZ z), .slice A1 (len (magZ z)) c1, .slice (some ⟨w2.heap.size + 1, 0, none⟩) (len 1) 1]) ?_ 2 _ | refine Bx.far ?_ (by first | assumption | (simp <;> done) | (simp; omega) | omega) _))
  replace r1 := Row.at r1 p4 (by rw [hp]; repeat' (first | (with_reducible exact r1) | (with_reducible refine Row.alloc' ?_ _) | (with_reducible refine Row.drewN ?_ _) | (with_reducible refine Row.drew' ?_) | refine Row.far_off ?_ (by assumption) _ | refine Row.far_set ?_ (by first | (simp <;> done) | (simp; omega) | omega) _))
  replace rl := Row.at rl p4 (by rw [hp]; repeat' (first | (with_reducible exact rl) | (with_reducible refine Row.alloc' ?_ _) | (with_reducible refine Row.drewN ?_ _) | (with_reducible refine Row.drew' ?_) | refine Row.far_off ?_ (by assumption) _ | refine Row.far_set ?_ (by first | (simp <;> done) | (simp; omega) | omega) _))
  replace r2 := Row.at r2 p4 (by rw [hp]; repeat' (first | (with_reducible exact r2) | (with_reducible refine Row.alloc' ?_ _) | (with_reducible refine Row.drewN ?_ _) | (with_reducible refine Row.drew' ?_) | refine Row.far_off ?_ (by assumption) _ | refine Row.far_set ?_ (by first | (simp <;> done) | (simp; omega) | omega) _))
  have zp4 : w3.heap.size ≤ p4.heap.size := (by rw [hp]; exact leA)
  clear hp O
  have O := O'
  clear O'
  refine (plain_to (by rw [rRatOk_yes K3.out]) (impl_RatOk (sgnZ z) A1 (len (magZ z)) c1 _ (digI (magZ z)) A2 (len d) c2 _ (digI d) _ r1 r2 (by omega) (by omega))).mono ?_
  rintro e w4 ⟨rfl, o4⟩
  replace B_r := Bx.old B_r o4
  replace B_n := Bx.old B_n o4
  replace B_l := Bx.old B_l o4
  replace B_q := Bx.old B_q o4
  replace r1 := Row.below r1 o4 (Nat.le_refl _)
  replace rl := Row.below rl o4 (Nat.le_refl _)
  replace r2 := Row.below r2 o4 (Nat.le_refl _)
  replace O := Old.trans O o4
  have zw4 := o4.size
  have q_r_0 := B_r.cell 0 rfl
  have q_r_1 := B_r.cell 1 rfl
  have q_r_2 := B_r.cell 2 rfl
  have f_r_0 := B_r.frozen 0
  have f_r_1 := B_r.frozen 1
  have f_r_2 := B_r.frozen 2
  have q_r := B_r.lt
  have q_n_0 := B_n.cell 0 rfl
  have q_n_1 := B_n.cell 1 rfl
  have f_n_0 := B_n.frozen 0
  have f_n_1 := B_n.frozen 1
  have q_n := B_n.lt
  have q_l_0 := B_l.cell 0 rfl
  have f_l_0 := B_l.frozen 0
  have q_l := B_l.lt
  have q_q_0 := B_q.cell 0 rfl
  have q_q_1 := B_q.cell 1 rfl
  have q_q_2 := B_q.cell 2 rfl
  have f_q_0 := B_q.frozen 0
  have f_q_1 := B_q.frozen 1
  have f_q_2 := B_q.frozen 2
  have q_q := B_q.lt
  go_wp2_with fail
  refine callsNamed ?_
  intro p5 hp
  clear q_r_0 q_r_1 q_r_2 f_r_0 f_r_1 f_r_2 q_r q_n_0 q_n_1 f_n_0 f_n_1 q_n q_l_0 f_l_0 q_l q_q_0 q_q_1 q_q_2 f_q_0 f_q_1 f_q_2 q_q
  have O' : Old w p5 := (by rw [hp]; exact Below.trans (b := w4) O oldB)
  replace B_r : Bx p5 (w.heap.size) #[.bool false, .slice none 0 0, .slice none 0 0] := (by rw [hp]; repeat' (first | (with_reducible exact B_r) | (with_reducible refine Bx.alloc ?_ _) | (with_reducible refine Bx.drewN ?_ _) | (with_reducible refine Bx.drew ?_) | refine Bx.far ?_ (by first | assumption | (simp <;> done) | (simp; omega) | omega) _))
  replace B_n : Bx p5 (w2.heap.size) #[.bool (sgnZ z), .slice A1 (len (magZ z)) c1] := (by rw [hp]; repeat' (first | (with_reducible exact B_n) | (with_reducible refine Bx.alloc ?_ _) | (with_reducible refine Bx.drewN ?_ _) | (with_reducible refine Bx.drew ?_) | refine Bx.far ?_ (by first | assumption | (simp <;> done) | (simp; omega) | omega) _))
  replace B_l : Bx p5 (w2.heap.size + 1) #[.int .i64 1] := (by rw [hp]; repeat' (first | (with_reducible exact B_l) | (with_reducible refine Bx.alloc ?_ _) | (with_reducible refine Bx.drewN ?_ _) | (with_reducible refine Bx.drew ?_) | refine Bx.far ?_ (by first | assumption | (simp <;> done) | (simp; omega) | omega) _))
  replace B_q : Bx p5 (w2.heap.size + 1 + 1) #[.bool (sgnZ z), .slice A1 (len (magZ z)) c1, .slice A2 (len d) c2] := (by rw [hp]; repeat' (first | (with_reducible exact B_q) | (with_reducible refine Bx.alloc ?_ _) | (with_reducible refine Bx.drewN ?_ _) | (with_reducible refine Bx.drew ?_) | refine Bx.far ?_ (by first | assumption | (simp <;> done) | (simp; omega) | omega) _))
  replace r1 := Row.at r1 p5 (by rw [hp]; repeat' (first | (with_reducible exact r1) | (with_reducible refine Row.alloc' ?_ _) | (with_reducible refine Row.drewN ?_ _) | (with_reducible refine Row.drew' ?_) | refine Row.far_off ?_ (by assumption) _ | refine Row.far_set ?_ (by first | (simp <;> done) | (simp; omega) | omega) _))
  replace rl := Row.at rl p5 (by rw [hp]; repeat' (first | (with_reducible exact rl) | (with_reducible refine Row.alloc' ?_ _) | (with_reducible refine Row.drewN ?_ _) | (with_reducible refine Row.drew' ?_) | refine Row.far_off ?_ (by assumption) _ | refine Row.far_set ?_ (by first | (simp <;> done) | (simp; omega) | omega) _))
  replace r2 := Row.at r2 p5 (by rw [hp]; repeat' (first | (with_reducible exact r2) | (with_reducible refine Row.alloc' ?_ _) | (with_reducible refine Row.drewN ?_ _) | (with_reducible refine Row.drew' ?_) | refine Row.far_off ?_ (by assumption) _ | refine Row.far_set ?_ (by first | (simp <;> done) | (simp; omega) | omega) _))
  have zp5 : w4.heap.size ≤ p5.heap.size := (by rw [hp]; exact leA)
  clear hp O
  have O := O'
  clear O'
  refine (formatRat_any (sgnZ z) A1 (len (magZ z)) c1 _ (digI (magZ z)) A2 (len d) c2 _ (digI d) _ r1 r2 K3.out (KT.old K O)).mono ?_
  rintro e w5 ⟨rfl, o5⟩
  replace B_r := Bx.old B_r o5
  replace B_n := Bx.old B_n o5
  replace B_l := Bx.old B_l o5
  replace B_q := Bx.old B_q o5
  replace r1 := Row.below r1 o5 (Nat.le_refl _)
  replace rl := Row.below rl o5 (Nat.le_refl _)
  replace r2 := Row.below r2 o5 (Nat.le_refl _)
  replace O := Old.trans O o5
  have zw5 := o5.size
  rw [show ratT (sgnZ z) (len (magZ z)) (digI (magZ z)) (len d) (digI d) = txQ z d from rfl]
  rw [K4.out]
  have q_r_0 := B_r.cell 0 rfl
  have q_r_1 := B_r.cell 1 rfl
  have q_r_2 := B_r.cell 2 rfl
  have f_r_0 := B_r.frozen 0
  have f_r_1 := B_r.frozen 1
  have f_r_2 := B_r.frozen 2
  have q_r := B_r.lt
  have q_n_0 := B_n.cell 0 rfl
  have q_n_1 := B_n.cell 1 rfl
  have f_n_0 := B_n.frozen 0
  have f_n_1 := B_n.frozen 1
  have q_n := B_n.lt
  have q_l_0 := B_l.cell 0 rfl
  have f_l_0 := B_l.frozen 0
  have q_l := B_l.lt
  have q_q_0 := B_q.cell 0 rfl
  have q_q_1 := B_q.cell 1 rfl
  have q_q_2 := B_q.cell 2 rfl
  have f_q_0 := B_q.frozen 0
  have f_q_1 := B_q.frozen 1
  have f_q_2 := B_q.frozen 2
  have q_q := B_q.lt
  go_wp2
  refine bodyPost_ret (v := .tuple #[.agg #[.bool (sgnZ z), .slice A1 (len (magZ z)) c1, .slice A2 (len d) c2], .bool true]) (by simp [results, Tryz.results6, go_sem, q_r_0, q_r_1, q_r_2]) rfl ⟨⟨z, d, A1, c1, A2, c2, rfl, rfl, ?_, ?_, Apart.of lim_r1 r2 (by omega)⟩, ?_⟩
  · refine Row.more (lo := p2.heap.size) ?_ leA
    repeat' (first | (with_reducible exact r1) | (with_reducible refine Row.far_set ?_ (by first | (simp <;> done) | (simp; omega) | omega) _))
  · refine Row.more (lo := p3.heap.size) ?_ leA
    repeat' (first | (with_reducible exact r2) | (with_reducible refine Row.far_set ?_ (by first | (simp <;> done) | (simp; omega) | omega) _))
  · exact Below.trans (b := w5) O oldB
theorem impl_ParseRat (s : ByteArray) (w : World) (b : s.size ≤ 1048576) (K : KT w) :
    Calls Tryz.prog 6 #[.string s] w fun e w' => RetRB e w' w.heap.size (vParseRat s) (rParseRat1 s) ∧ Old w w' := by
  by_cases hk : okQ s
  · obtain ⟨z, d, n1, p1, hs⟩ := hk
    have l1 := norm_len n1
    simp only at l1
    have hp := pq_is n1 p1 hs
    rw [hp.1, hp.2]
    have k3 := (okR_val n1).2 p1
    have hb := parse_big (z := z) (by omega)
    by_cases e1 : d = 1
    · subst e1
      have hi := txZ_nocut (z := z) (by omega)
      rw [txQ_one] at hs
      rw [hs] at hi hb
      exact impl_ParseRat_one_yes s z w b K true hi hb.1 hb.2 rfl k3 (by rw [txQ_one]; exact hs)
    · have hc := txQ_cut (z := z) (d := d) (by omega) (by omega) e1
      rw [hs] at hc
      have hn := parse_format (x := d) (by omega)
      exact impl_ParseRat_cut_yes s z w b K (txZ z) (txN d) d true true (txZ z).size hc.index (by have := hc.size; omega) hc.left hc.right hb.1 hb.2 hn.1 hn.2 rfl rfl k3 hs
  · have hp := pq_not hk
    rw [hp.1, hp.2]
    have hfin : ∀ (z : Int) (d : Nat), len (magZ z) ≤ 60 → len d ≤ 60 → okR (sgnZ z) (len (magZ z)) (digI (magZ z)) (len d) (digI d) → ¬ txQ z d = s := by
      intro z d h1 h2 k e
      have hv := val_of_okR h1 h2 k
      exact hk ⟨z, d, hv.1, hv.2, e⟩
    rcases (by have := Lib.indexByte_ge s.data.toList 47; omega : Lib.indexByte s.data.toList 47 = -1 ∨ 0 ≤ Lib.indexByte s.data.toList 47) with h | h
    · cases h1 : rParseBigInt1 s with
      | false => exact impl_ParseRat_one_no1 s _ w b K false h rfl h1 rfl
      | true =>
        by_cases k3 : okR (sgnZ (zParseBigInt s)) (len (magZ (zParseBigInt s))) (digI (magZ (zParseBigInt s))) (len 1) (digI 1)
        · exact impl_ParseRat_one_no4 s _ w b K true h rfl h1 rfl k3 (hfin _ _ (zParseBigInt_len s) (by rw [one_len]; omega) k3)
        · exact impl_ParseRat_one_no3 s _ w b K true h rfl h1 rfl k3
    · obtain ⟨i, hi⟩ : ∃ i : Nat, Lib.indexByte s.data.toList 47 = (i : Int) := ⟨(Lib.indexByte s.data.toList 47).toNat, by omega⟩
      have hlt := (index_found hi).1
      cases h1 : rParseBigInt1 (s.extract 0 i) with
      | false => exact impl_ParseRat_cut_no1 s _ w b K _ _ _ false (rParseNat1 (s.extract (i + 1) s.size)) i hi hlt rfl rfl rfl h1 rfl rfl rfl
      | true =>
        cases h2 : rParseNat1 (s.extract (i + 1) s.size) with
        | false => exact impl_ParseRat_cut_no2 s _ w b K _ _ _ true false i hi hlt rfl rfl rfl h1 rfl h2 rfl rfl
        | true =>
          by_cases k3 : okR (sgnZ (zParseBigInt (s.extract 0 i))) (len (magZ (zParseBigInt (s.extract 0 i)))) (digI (magZ (zParseBigInt (s.extract 0 i)))) (len (rParseNat (s.extract (i + 1) s.size))) (digI (rParseNat (s.extract (i + 1) s.size)))
          · exact impl_ParseRat_cut_no4 s _ w b K _ _ _ true true i hi hlt rfl rfl rfl h1 rfl h2 rfl rfl k3 (hfin _ _ (zParseBigInt_len _) (rParseNat_len _) k3)
          · exact impl_ParseRat_cut_no3 s _ w b K _ _ _ true true i hi hlt rfl rfl rfl h1 rfl h2 rfl rfl k3
end Go.Proofs.YtgchbbjhdeobpaaGreatDoor

namespace Go.Proofs.YtgchbbjhdeobpaaGreatDoor
set_option linter.unusedVariables false
open Go.RowKit Num
theorem BRd.lift {w : World} {lim lim' : Nat} {A : Option Addr} {n c : Nat} (h : BRd w lim A n c) (hl : lim ≤ lim') : BRd w lim' A n c := by
  refine ⟨h.1, h.2.1, fun hn => ?_⟩
  obtain ⟨b, off, e, hs, hb, hc⟩ := h.2.2 hn
  exact ⟨b, off, e, hs, by omega, hc⟩
/-- The call returned the fraction (z, d), as memory that is not older than lo. -/
def RetF (e : Ending) (w : World) (lo : Nat) (z : Int) (d : Nat) : Prop := ∃ A1 c1 A2 c2, e = .returned (.agg #[.bool (sgnZ z), .slice A1 (len (magZ z)) c1, .slice A2 (len d) c2]) ∧ NatS w lo A1 c1 (magZ z) ∧ NatS w lo A2 c2 d ∧ Apart A1 (len (magZ z)) A2 (len d)
theorem retF_to {P : Program} {f : FuncId} {args : Array Value} {w : World} {v : Fr} {z : Int} {d : Nat} (hv : v = (z, d)) (h : Calls P f args w fun e w' => RetR e w' w.heap.size v ∧ Old w w') : Calls P f args w fun e w' => RetF e w' w.heap.size z d ∧ Old w w' := by
  refine h.mono ?_
  rintro e w' ⟨⟨z', d', A1, c1, A2, c2, hv', he, r1, r2, ap⟩, o⟩
  rw [hv] at hv'
  injection hv' with h1 h2
  subst h1
  subst h2
  exact ⟨⟨A1, c1, A2, c2, he, r1, r2, ap⟩, o⟩
theorem vRatOf_mk {a : Int} {m : Nat} (ha : -1000 ≤ a ∧ a ≤ 1000) (hm : m ≤ 1000) : vRatOf a (m : Int) = mkF a m := by
  unfold vRatOf
  have l1 : len (magZ a) ≤ 60 := by
    have h1 : magZ a ≤ 1000 := by unfold magZ; omega
    have h2 : len (magZ a) ≤ 1 := len_le_iff.2 (by rw [Nat.pow_one, B_eq]; omega)
    omega
  have e2 : magZ (m : Int) = m := by unfold magZ; omega
  have l2 : len m ≤ 60 := by
    have h2 : len m ≤ 1 := len_le_iff.2 (by rw [Nat.pow_one, B_eq]; omega)
    omega
  have s2 : sgnZ (m : Int) = false := decide_eq_false (by omega)
  rw [zBigIntOf_yes (by omega), zBigIntOf_yes (by omega), e2, s2, vRatMake_yes (okB_of l1 sgn_pos) (okB_of l2 (fun h => by cases h)), natX_digI l1, natX_digI l2]
  have e3 : (sgnZ a != false) = sgnZ a := by cases sgnZ a <;> rfl
  rw [e3, signed_mag]
theorem few_of {x m : Nat} {z : Int} {d : Nat} (hx : x < 21) (hm : m = 1 ∨ m = 2 ∨ m = 3) (hv : vRatOf ((x : Int) - 10) (m : Int) = ((z, d) : Fr)) : ((z, d) : Fr) ∈ few := by
  rw [← hv, vRatOf_mk (by omega) (by omega)]
  exact few_mem hx hm
theorem few_norm {v : Fr} (h : v ∈ few) : normF v := by
  unfold few at h
  obtain ⟨x, _, hx⟩ := List.mem_flatMap.1 h
  simp only [List.mem_cons, List.not_mem_nil, or_false] at hx
  rcases hx with rfl | rfl | rfl <;> exact mkF_norm _ _
theorem ratEq_v (z : Int) (d : Nat) (A1 D1 : Option Addr) (c1 e1 l1 m1 : Nat) (A2 D2 : Option Addr) (c2 e2 l2 m2 : Nat) (w : World) (h1 : NatS w l1 A1 c1 (magZ z)) (k1 : NatS w m1 D1 e1 d) (h2 : NatS w l2 A2 c2 (magZ z)) (k2 : NatS w m2 D2 e2 d) (n1 : normF (z, d)) :
    Calls Tryz.prog 12 #[.agg #[.bool (sgnZ z), .slice A1 (len (magZ z)) c1, .slice D1 (len d) e1], .agg #[.bool (sgnZ z), .slice A2 (len (magZ z)) c2, .slice D2 (len d) e2]] w fun e w' => e = .returned (.bool true) ∧ Old w w' := by
  have hl := norm_len n1
  simp only at hl
  have h := impl_RatEqual (sgnZ z) A1 (len (magZ z)) c1 l1 (digI (magZ z)) D1 (len d) e1 m1 (digI d) (sgnZ z) A2 (len (magZ z)) c2 l2 (digI (magZ z)) D2 (len d) e2 m2 (digI d) w h1 k1 h2 k2 (by omega) (by omega) (by omega) (by omega)
  rw [show rRatEqual (sgnZ z) (len (magZ z)) (digI (magZ z)) (len d) (digI d) (sgnZ z) (len (magZ z)) (digI (magZ z)) (len d) (digI d) = true by
    unfold rRatEqual
    rw [rEqL_yes ⟨rfl, fun _ _ => rfl⟩, rEqL_yes ⟨rfl, fun _ _ => rfl⟩]
    simp] at h
  exact h
theorem fmtRat_v (z : Int) (d : Nat) (A D : Option Addr) (c e l m : Nat) (w : World) (h : NatS w l A c (magZ z)) (k : NatS w m D e d) (n1 : normF (z, d)) (p1 : 0 < d) (K : KT w) :
    Calls Tryz.prog 11 #[.agg #[.bool (sgnZ z), .slice A (len (magZ z)) c, .slice D (len d) e]] w fun e' w' => e' = .returned (.string (txQ z d)) ∧ Old w w' := by
  have hl := norm_len n1
  simp only at hl
  have hh := impl_FormatRat (sgnZ z) A (len (magZ z)) c l (digI (magZ z)) D (len d) e m (digI d) w h k (by omega) (by omega) K
  rw [fmt_val n1 p1] at hh
  exact hh
theorem parRat_v (z : Int) (d : Nat) (w : World) (n1 : normF (z, d)) (p1 : 0 < d) (K : KT w) :
    Calls Tryz.prog 6 #[.string (txQ z d)] w fun e w' => (∃ A1 c1 A2 c2, e = .returned (.tuple #[.agg #[.bool (sgnZ z), .slice A1 (len (magZ z)) c1, .slice A2 (len d) c2], .bool true]) ∧ NatS w' w.heap.size A1 c1 (magZ z) ∧ NatS w' w.heap.size A2 c2 d ∧ Apart A1 (len (magZ z)) A2 (len d)) ∧ Old w w' := by
  have hsz := ratT_size (sgnZ z) (len (magZ z)) (digI (magZ z)) (len d) (digI d)
  have hp := pq_is n1 p1 rfl
  refine (impl_ParseRat (txQ z d) w (by unfold txQ; omega) K).mono ?_
  rintro e w' ⟨⟨z', d', A1, c1, A2, c2, hv', he, r1, r2, ap⟩, o⟩
  rw [hp.1] at hv'
  rw [hp.2] at he
  injection hv' with h1 h2
  subst h1
  subst h2
  exact ⟨⟨A1, c1, A2, c2, he, r1, r2, ap⟩, o⟩
theorem takeW {P : Program} {md : Region.Mode} {ops : Array Oper} {Q : Exit → Act → World → Prop} {S : World → Prop} {i : Nat} {d op ty ps af gd} {v : Value} {fuel : Nat} {listed : Array Bool} {a : Act} {w : World} (hi : ops[i]? = some ⟨d, op, ty, ps, af, gd⟩)
    (hs : Region.noSelect ops = true) (hf : Region.free md ops listed i = true) (hr : (Region.ready md ops listed).contains i = true) (hQ : ∀ c a w, Q (.panic c) (a.put d v) w → Q (.panic c) a w) (hw : Region.wanted ⟨d, op, ty, ps, af, gd⟩ (yielded ops a.tmps) = true)
    (hS : S w) (hy : ∀ w, S w → (execOp a.eval ⟨d, op, ty, ps, af, gd⟩).run P w = .ok (.value v) w) (h : wpAnyH P md ops Q S fuel (listed.setIfInBounds i true) (a.put d v) w) : wpAnyH P md ops Q S (fuel + 1) listed a w :=
  wpAnyH_take hi hs hf hr hQ (Or.inl ⟨hw, hy⟩) hS h
theorem takeN {P : Program} {md : Region.Mode} {ops : Array Oper} {Q : Exit → Act → World → Prop} {S : World → Prop} {i : Nat} {d op ty ps af gd} {fuel : Nat} {listed : Array Bool} {a : Act} {w : World} (hi : ops[i]? = some ⟨d, op, ty, ps, af, gd⟩)
    (hs : Region.noSelect ops = true) (hf : Region.free md ops listed i = true) (hr : (Region.ready md ops listed).contains i = true) (hQ : ∀ c a w, Q (.panic c) (a.put d undef) w → Q (.panic c) a w) (hw : Region.wanted ⟨d, op, ty, ps, af, gd⟩ (yielded ops a.tmps) = false)
    (hS : S w) (h : wpAnyH P md ops Q S fuel (listed.setIfInBounds i true) (a.put d undef) w) : wpAnyH P md ops Q S (fuel + 1) listed a w :=
  wpAnyH_take hi hs hf hr hQ (Or.inr ⟨hw, rfl⟩) hS h
theorem skipN {P : Program} {md : Region.Mode} {ops : Array Oper} {Q : Exit → Act → World → Prop} {S : World → Prop} {i : Nat} {d op ty ps af gd} {fuel : Nat} {listed : Array Bool} {a : Act} {w : World} (hi : ops[i]? = some ⟨d, op, ty, ps, af, gd⟩)
    (hr : Region.ready md ops listed = [i]) (hw : Region.wanted ⟨d, op, ty, ps, af, gd⟩ (yielded ops a.tmps) = false) (hS : S w) (h : wpAnyH P md ops Q S fuel (listed.setIfInBounds i true) (a.put d undef) w) : wpAnyH P md ops Q S (fuel + 1) listed a w :=
  wpAnyH_all hr (by simp) fun j hj => by
    obtain rfl := List.mem_singleton.1 hj
    exact YieldsIf.wpOp (S := S) hi (Or.inr ⟨hw, rfl⟩) hS ⟨hS, h⟩
theorem callW {P : Program} {md : Region.Mode} {ops : Array Oper} {Q : Exit → Act → World → Prop} {S : World → Prop} {i : Nat} {d op ty ps af gd} {fuel : Nat} {listed : Array Bool} {a : Act} {w : World} (hi : ops[i]? = some ⟨d, op, ty, ps, af, gd⟩)
    (hr : Region.ready md ops listed = [i]) (hw : Region.wanted ⟨d, op, ty, ps, af, gd⟩ (yielded ops a.tmps) = true)
    (h : ∀ K' : Act → World → Prop, Shut (∀ a w, S w → (S w → wpAnyH P md ops Q S fuel (listed.setIfInBounds i true) a w) → K' a w) → Oper.wp P ⟨d, op, ty, ps, af, gd⟩ a w K' Q) : wpAnyH P md ops Q S (fuel + 1) listed a w :=
  wpAnyH_ready hr (by simp) (AllReadyH.cons hi (fun K' hK => by rw [if_pos hw]; exact h K' hK) AllReadyH.nil)
end Go.Proofs.YtgchbbjhdeobpaaGreatDoor
