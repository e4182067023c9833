import Derived.Test.YtgchbbjhdeobpaaGreatDoorParQ
import Derived.Test.YtgchbbjhdeobpaaGreatDoorWk
import Derived.Test.YtgchbbjhdeobpaaGreatDoorWq
/-
  Texts of fractions read back: both ParseRat's.
-/
namespace Go.Proofs.YtgchbbjhdeobpaaGreatDoor
set_option linter.unusedVariables false
open Go.RowKit Num
theorem textQ_neq {a b : ByteArray} (h : ¬ a = b) : (!a.toList == b.toList) = true := by
  rw [ByteArray.toList_eq, ByteArray.toList_eq]
  simp only [Bool.not_eq_true', beq_eq_false_iff_ne]
  exact fun e => h (ByteArray.ext (Array.ext' e))
theorem one_len : len 1 = 1 := len_eq (by rw [Nat.pow_one, B_eq]; omega) (fun _ => by rw [Nat.sub_self, Nat.pow_zero]; omega)
theorem one_box {w : World} {g lo : Nat} (h : Bx w g #[.int .i64 1]) (hl : lo ≤ g) : NatS w lo (some ⟨g, 0, none⟩) 1 1 := by
  refine ⟨by rw [one_len]; omega, fun _ => ⟨g, 0, rfl, hl, h.lt, h.frozen, fun j hj => ?_⟩⟩
  rw [one_len] at hj
  obtain rfl : j = 0 := by omega
  have e : digI 1 0 = 1 := by unfold digI; rw [dig_self (by omega)]; rfl
  rw [e]
  exact h.cell 0 rfl
theorem wpNamed {P : Program} {c : Code} {Q : Exit → Act → World → Prop} {a : Act} {w : World} (h : ∀ x, x = w → c.wp P Q a x) : c.wp P Q a w := h w rfl
theorem Lim.off {hi g n : Nat} {A : Option Addr} (h : Lim hi A n) (hg : hi ≤ g) : Off g A n := fun h0 a ea e => by have := h h0 a ea; omega
theorem Off.one {g g' n : Nat} (h : ¬ g' = g) : Off g (some (⟨g', 0, none⟩ : Addr)) n := fun _ a ea e => by injection ea with ea; subst ea; exact h e
theorem strs_len {w : World} {lo c L : Nat} {A : Option Addr} {l : List ByteArray} (h : StrS w lo A c l) (e : L = l.length) : SRow w lo A L c (fun j => l.getD j ByteArray.empty) := e ▸ h
theorem Bx.newAt3 {w : World} {g : Nat} {cs : Array Value} {t : TypeId} (hg : g = w.heap.size) : Bx (w.alloc (.cells cs t)) g cs := hg ▸ Bx.new w cs t
theorem Lim.one {g hi : Nat} (h : g < hi) (n : Nat) : Lim hi (some (⟨g, 0, none⟩ : Addr)) n := fun _ a e => by injection e with e; subst e; exact h
/-- The call returned the fraction v and the bool b, as memory that is not older than lo. -/
def RetRB (e : Ending) (w : World) (lo : Nat) (v : Fr) (b : Bool) : Prop := ∃ z d A1 c1 A2 c2, v = (z, d) ∧ e = .returned (.tuple #[.agg #[.bool (sgnZ z), .slice A1 (len (magZ z)) c1, .slice A2 (len d) c2], .bool b]) ∧ NatS w lo A1 c1 (magZ z) ∧ NatS w lo A2 c2 d ∧ Apart A1 (len (magZ z)) A2 (len d)
theorem RetRB.zero {e : Ending} {w : World} {lo : Nat} (h : e = .returned (.tuple #[.agg #[.bool false, .slice none 0 0, .slice none 0 0], .bool false])) : RetRB e w lo (0, 0) false :=
  ⟨0, 0, none, 0, none, 0, rfl, h, Row.zero _ _ _ _ _, Row.zero _ _ _ _ _, Apart.nil _ _ _⟩
theorem txN_pos {x : Nat} (h : len x ≤ 60) : 0 < (txN x).size := (okN_in (txN_ok h).1).2
theorem txZ_pos0 {z : Int} (h : len (magZ z) ≤ 60) : 0 < (txZ z).size := by
  by_cases hz : z < 0
  · have e : (txZ z).size = (txZ z).data.toList.length := rfl
    rw [e, txZ_neg hz]
    simp
  · rw [txZ_pos hz]
    exact txN_pos h
theorem txQ_ne {z : Int} {d : Nat} (n1 : normF (z, d)) : ¬ (txQ z d).size = 0 := by
  have l1 := norm_len n1
  simp only at l1
  by_cases e1 : d = 1
  · subst e1
    rw [txQ_one]
    have := txZ_pos0 (z := z) (by omega)
    omega
  · have := (txQ_cut (z := z) (d := d) (by omega) (by omega) e1).size
    omega
theorem split_none {s : ByteArray} {c : UInt8} (h : Lib.indexByte s.data.toList c = -1) : rSplitAny s (oneC c) = [s] := by
  have hn := Lib.indexByte_none (l := s.data.toList) (c := c) h
  have h1 : ∀ i, i ≤ s.size → spl s (oneC c) i = ([], 0) := by
    intro i
    induction i with
    | zero => intro _; rfl
    | succ i ih =>
      intro hi
      have hl : i < s.data.toList.length := by have e : s.size = s.data.toList.length := rfl; omega
      rw [spl_miss (by
        rw [hasB_one]
        refine decide_eq_false fun e => hn i ?_
        unfold bAt at e
        rw [List.getD_eq_getElem?_getD, List.getElem?_eq_getElem hl] at e
        rw [List.getElem?_eq_getElem hl]
        exact congrArg some e), ih (by omega)]
  unfold rSplitAny
  rw [h1 s.size (Nat.le_refl _)]
  have : s.extract 0 s.size = s := by
    apply ByteArray.ext
    apply Array.ext'
    rw [ByteArray.data_extract, Array.toList_extract]
    have e : s.size = s.data.toList.length := rfl
    rw [List.extract_eq_take_drop, List.drop_zero, Nat.sub_zero]
    exact List.take_of_length_le (Nat.le_of_eq e.symm)
  simp only [this, List.nil_append]

theorem implBig_c (s : ByteArray) (z : Int) (t : Bool) (w : World) (b : s.size ≤ maxLen) (hz : zParseBigInt s = z) (ht : rParseBigInt1 s = t) :
    Calls Tryz.prog 26 #[.string s] w fun e w' => RetBB e w' w.heap.size z t ∧ Old w w' := by
  subst hz
  subst ht
  exact impl_ParseBigInt s w b
theorem implNat_c (s : ByteArray) (d : Nat) (t : Bool) (w : World) (b : s.size ≤ maxLen) (hd : rParseNat s = d) (ht : rParseNat1 s = t) :
    Calls Tryz.prog 27 #[.string s] w fun e w' => RetNB e w' w.heap.size d t ∧ Old w w' := by
  subst hd
  subst ht
  exact impl_ParseNat s w b
theorem specBig_c (s : ByteArray) (z : Int) (t : Bool) (w : World) (b : s.size ≤ maxLen) (hz : zParseBigInt s = z) (ht : rParseBigInt1 s = t) :
    Calls Tryz.prog 22 #[.string s] w fun e w' => RetBB e w' w.heap.size z t ∧ Old w w' := by
  subst hz
  subst ht
  exact spec_ParseBigInt s w b
theorem specNat_c (s : ByteArray) (d : Nat) (t : Bool) (w : World) (b : s.size ≤ maxLen) (hd : rParseNat s = d) (ht : rParseNat1 s = t) :
    Calls Tryz.prog 23 #[.string s] w fun e w' => RetNB e w' w.heap.size d t ∧ Old w w' := by
  subst hd
  subst ht
  exact spec_ParseNat s w b
theorem pieceQ (s y : ByteArray) : ∀ i, i ≤ s.size → ∀ p ∈ (spl s y i).1, p.size ≤ s.size
  | 0, _, p, hp => by cases hp
  | i + 1, hi, p, hp => by
    by_cases h : hasB y (bAt s i) = true
    · rw [spl_hit h] at hp
      rcases List.mem_append.1 hp with hp | hp
      · exact pieceQ s y i (by omega) p hp
      · simp only [List.mem_singleton] at hp
        rw [hp, ByteArray.size_extract]
        omega
    · rw [spl_miss (by simpa using h)] at hp
      exact pieceQ s y i (by omega) p hp
theorem piecesQ {s y p : ByteArray} (h : p ∈ rSplitAny s y) : p.size ≤ s.size := by
  unfold rSplitAny at h
  rcases List.mem_append.1 h with h | h
  · exact pieceQ s y s.size (Nat.le_refl _) p h
  · simp only [List.mem_singleton] at h
    rw [h, ByteArray.size_extract]
    omega
set_option maxRecDepth 100000 in
set_option maxHeartbeats 8000000 in
theorem impl_ParseRat_one_no1 (s : ByteArray) (z : Int) (w : World) (b : s.size ≤ 1048576) (K : KT w) (b1 : Bool) (hidx : Lib.indexByte s.data.toList 47 = -1) (hz : zParseBigInt s = z) (ht : rParseBigInt1 s = b1) (k1 : b1 = false) :
    Calls Tryz.prog 6 #[.string s] w fun e w' => RetRB e w' w.heap.size (0, 0) false ∧ Old w w' := by
  subst k1
  have hlz : len (magZ z) ≤ 60 := by rw [← hz]; exact zParseBigInt_len _
  have HZ := Lib.hid hz
  have HT := Lib.hid ht
  clear hz ht
  have hld : len 1 ≤ 60 := by rw [one_len]; omega
  have HI := Lib.hid hidx
  clear hidx
  have HP : Hid (s.size ≤ maxLen) := Lib.hid (by unfold maxLen; omega)
  have O : Old w (w.alloc (.cells #[.bool false, .slice none 0 0, .slice none 0 0] 26)) := oldB
  have B_r : Bx (w.alloc (.cells #[.bool false, .slice none 0 0, .slice none 0 0] 26)) (w.heap.size) #[.bool false, .slice none 0 0, .slice none 0 0] := by have h := (Bx.new w #[.bool false, .slice none 0 0, .slice none 0 0] 26); simpa using h
  have ze : w.heap.size + 1 ≤ (w.alloc (.cells #[.bool false, .slice none 0 0, .slice none 0 0] 26)).heap.size := (by simp)
  go_enter Tryz.func6, Tryz.ntmps6
  go_wp2_with fail
  refine callsNamed ?_
  intro p1 hp
  have O' : Old w p1 := (by rw [hp]; exact Below.trans (b := (w.alloc (.cells #[.bool false, .slice none 0 0, .slice none 0 0] 26))) O oldB)
  replace B_r : Bx p1 (w.heap.size) #[.bool false, .slice none 0 0, .slice none 0 0] := (by rw [hp]; repeat' (first | (with_reducible exact B_r) | (with_reducible refine Bx.alloc ?_ _) | (with_reducible refine Bx.drewN ?_ _) | (with_reducible refine Bx.drew ?_) | refine Bx.far ?_ (by first | assumption | (simp <;> done) | (simp; omega) | omega) _))
  have zp1 : (w.alloc (.cells #[.bool false, .slice none 0 0, .slice none 0 0] 26)).heap.size ≤ p1.heap.size := (by rw [hp]; exact leA)
  clear hp O
  have O := O'
  clear O'
  refine (cut_no s 47 _ HI.out).mono ?_
  rintro e w1 ⟨rfl, o1⟩
  replace B_r := Bx.old B_r o1
  replace O := Old.trans O o1
  have zw1 := o1.size
  have q_r_0 := B_r.cell 0 rfl
  have q_r_1 := B_r.cell 1 rfl
  have q_r_2 := B_r.cell 2 rfl
  have f_r_0 := B_r.frozen 0
  have f_r_1 := B_r.frozen 1
  have f_r_2 := B_r.frozen 2
  have q_r := B_r.lt
  go_wp2_with fail
  refine callsNamed ?_
  intro p2 hp
  clear q_r_0 q_r_1 q_r_2 f_r_0 f_r_1 f_r_2 q_r
  have O' : Old w p2 := (by rw [hp]; exact Below.trans (b := w1) O oldB)
  replace B_r : Bx p2 (w.heap.size) #[.bool false, .slice none 0 0, .slice none 0 0] := (by rw [hp]; repeat' (first | (with_reducible exact B_r) | (with_reducible refine Bx.alloc ?_ _) | (with_reducible refine Bx.drewN ?_ _) | (with_reducible refine Bx.drew ?_) | refine Bx.far ?_ (by first | assumption | (simp <;> done) | (simp; omega) | omega) _))
  have zp2 : w1.heap.size ≤ p2.heap.size := (by rw [hp]; exact leA)
  clear hp O
  have O := O'
  clear O'
  refine (implBig_c s z false _ HP.out HZ.out HT.out).mono ?_
  rintro e w2 ⟨⟨A1, c1, rfl, r1⟩, o2⟩
  replace B_r := Bx.old B_r o2
  replace O := Old.trans O o2
  have zw2 := o2.size
  replace r1 := Row.more (lo' := p2.heap.size) r1 leA
  have lim_r1 := Row.lim r1
  have q_r_0 := B_r.cell 0 rfl
  have q_r_1 := B_r.cell 1 rfl
  have q_r_2 := B_r.cell 2 rfl
  have f_r_0 := B_r.frozen 0
  have f_r_1 := B_r.frozen 1
  have f_r_2 := B_r.frozen 2
  have q_r := B_r.lt
  go_upto_region 7 with fail
  refine wpNamed ?_
  intro p3 hp
  clear q_r_0 q_r_1 q_r_2 f_r_0 f_r_1 f_r_2 q_r
  have O' : Old w p3 := (by rw [hp]; exact Below.trans (b := w2) O oldB)
  replace B_r : Bx p3 (w.heap.size) #[.bool false, .slice none 0 0, .slice none 0 0] := (by rw [hp]; repeat' (first | (with_reducible exact B_r) | (with_reducible refine Bx.alloc ?_ _) | (with_reducible refine Bx.drewN ?_ _) | (with_reducible refine Bx.drew ?_) | refine Bx.far ?_ (by first | assumption | (simp <;> done) | (simp; omega) | omega) _))
  replace r1 := Row.at r1 p3 (by rw [hp]; repeat' (first | (with_reducible exact r1) | (with_reducible refine Row.alloc' ?_ _) | (with_reducible refine Row.drewN ?_ _) | (with_reducible refine Row.drew' ?_) | refine Row.far_off ?_ (by assumption) _ | refine Row.far_set ?_ (by first | (simp <;> done) | (simp; omega) | omega) _))
  have B_n : Bx p3 (w2.heap.size) #[.bool (sgnZ z), .slice A1 (len (magZ z)) c1] := (by rw [hp]; repeat' (first | (exact Bx.newAt3 (by first | rfl | (simp <;> done))) | (exact Bx.put2 (Bx.newAt3 (by first | rfl | (simp <;> done))) _ _) | (with_reducible refine Bx.alloc ?_ _) | (with_reducible refine Bx.drewN ?_ _) | (with_reducible refine Bx.drew ?_) | refine Bx.far ?_ (by first | assumption | (simp <;> done) | (simp; omega) | omega) _))
  have lt_n := B_n.lt
  have ne_n_r : ¬ (w2.heap.size = w.heap.size) := by omega
  have en_n_r : ¬ (w.heap.size = w2.heap.size) := by omega
  have B_l : Bx p3 (w2.heap.size + 1) #[.int .i64 1] := (by rw [hp]; repeat' (first | (exact Bx.newAt3 (by first | rfl | (simp <;> done))) | (with_reducible refine Bx.alloc ?_ _) | (with_reducible refine Bx.drewN ?_ _) | (with_reducible refine Bx.drew ?_) | refine Bx.far ?_ (by first | assumption | (simp <;> done) | (simp; omega) | omega) _))
  have lt_l := B_l.lt
  have ne_l_r : ¬ (w2.heap.size + 1 = w.heap.size) := by omega
  have en_l_r : ¬ (w.heap.size = w2.heap.size + 1) := by omega
  have ne_l_n : ¬ (w2.heap.size + 1 = w2.heap.size) := by omega
  have en_l_n : ¬ (w2.heap.size = w2.heap.size + 1) := by omega
  have B_q : Bx p3 (w2.heap.size + 1 + 1) #[.bool (sgnZ z), .slice A1 (len (magZ z)) c1, .slice (some ⟨w2.heap.size + 1, 0, none⟩) (len 1) 1] := (by rw [hp, one_len]; repeat' (first | (exact Bx.newAt3 (by first | rfl | (simp <;> done))) | (exact Bx.put3 (Bx.newAt3 (by first | rfl | (simp <;> done))) _ _ _) | (with_reducible refine Bx.alloc ?_ _) | (with_reducible refine Bx.drewN ?_ _) | (with_reducible refine Bx.drew ?_) | refine Bx.far ?_ (by first | assumption | (simp <;> done) | (simp; omega) | omega) _))
  have lt_q := B_q.lt
  have ne_q_r : ¬ (w2.heap.size + 1 + 1 = w.heap.size) := by omega
  have en_q_r : ¬ (w.heap.size = w2.heap.size + 1 + 1) := by omega
  have ne_q_n : ¬ (w2.heap.size + 1 + 1 = w2.heap.size) := by omega
  have en_q_n : ¬ (w2.heap.size = w2.heap.size + 1 + 1) := by omega
  have ne_q_l : ¬ (w2.heap.size + 1 + 1 = w2.heap.size + 1) := by omega
  have en_q_l : ¬ (w2.heap.size + 1 = w2.heap.size + 1 + 1) := by omega
  have zp3 : w2.heap.size ≤ p3.heap.size := (by rw [hp]; exact leA)
  clear hp O
  have O := O'
  clear O'
  have rl := one_box B_l (lo := w2.heap.size) (by omega)
  have q_r_0 := B_r.cell 0 rfl
  have q_r_1 := B_r.cell 1 rfl
  have q_r_2 := B_r.cell 2 rfl
  have f_r_0 := B_r.frozen 0
  have f_r_1 := B_r.frozen 1
  have f_r_2 := B_r.frozen 2
  have q_r := B_r.lt
  have q_n_0 := B_n.cell 0 rfl
  have q_n_1 := B_n.cell 1 rfl
  have f_n_0 := B_n.frozen 0
  have f_n_1 := B_n.frozen 1
  have q_n := B_n.lt
  have q_l_0 := B_l.cell 0 rfl
  have f_l_0 := B_l.frozen 0
  have q_l := B_l.lt
  have q_q_0 := B_q.cell 0 rfl
  have q_q_1 := B_q.cell 1 rfl
  have q_q_2 := B_q.cell 2 rfl
  have f_q_0 := B_q.frozen 0
  have f_q_1 := B_q.frozen 1
  have f_q_2 := B_q.frozen 2
  have q_q := B_q.lt
  go_wp2
  refine bodyPost_ret (v := .tuple #[.agg #[.bool false, .slice none 0 0, .slice none 0 0], .bool false]) (by simp [results, Tryz.results6, go_sem, q_r_0, q_r_1, q_r_2]) rfl ⟨RetRB.zero rfl, Below.trans (b := p3) O oldB⟩
set_option maxRecDepth 100000 in
set_option maxHeartbeats 8000000 in
theorem impl_ParseRat_one_no3 (s : ByteArray) (z : Int) (w : World) (b : s.size ≤ 1048576) (K : KT w) (b1 : Bool) (hidx : Lib.indexByte s.data.toList 47 = -1) (hz : zParseBigInt s = z) (ht : rParseBigInt1 s = b1) (k1 : b1 = true) (k3 : ¬ okR (sgnZ z) (len (magZ z)) (digI (magZ z)) (len 1) (digI 1)) :
    Calls Tryz.prog 6 #[.string s] w fun e w' => RetRB e w' w.heap.size (0, 0) false ∧ Old w w' := by
  subst k1
  have hlz : len (magZ z) ≤ 60 := by rw [← hz]; exact zParseBigInt_len _
  have HZ := Lib.hid hz
  have HT := Lib.hid ht
  clear hz ht
  have hld : len 1 ≤ 60 := by rw [one_len]; omega
  have HI := Lib.hid hidx
  clear hidx
  have HP : Hid (s.size ≤ maxLen) := Lib.hid (by unfold maxLen; omega)
  have K3 := Lib.hid k3
  clear k3
  have O : Old w (w.alloc (.cells #[.bool false, .slice none 0 0, .slice none 0 0] 26)) := oldB
  have B_r : Bx (w.alloc (.cells #[.bool false, .slice none 0 0, .slice none 0 0] 26)) (w.heap.size) #[.bool false, .slice none 0 0, .slice none 0 0] := by have h := (Bx.new w #[.bool false, .slice none 0 0, .slice none 0 0] 26); simpa using h
  have ze : w.heap.size + 1 ≤ (w.alloc (.cells #[.bool false, .slice none 0 0, .slice none 0 0] 26)).heap.size := (by simp)
  go_enter Tryz.func6, Tryz.ntmps6
  go_wp2_with fail
  refine callsNamed ?_
  intro p1 hp
  have O' : Old w p1 := (by rw [hp]; exact Below.trans (b := (w.alloc (.cells #[.bool false, .slice none 0 0, .slice none 0 0] 26))) O oldB)
  replace B_r : Bx p1 (w.heap.size) #[.bool false, .slice none 0 0, .slice none 0 0] := (by rw [hp]; repeat' (first | (with_reducible exact B_r) | (with_reducible refine Bx.alloc ?_ _) | (with_reducible refine Bx.drewN ?_ _) | (with_reducible refine Bx.drew ?_) | refine Bx.far ?_ (by first | assumption | (simp <;> done) | (simp; omega) | omega) _))
  have zp1 : (w.alloc (.cells #[.bool false, .slice none 0 0, .slice none 0 0] 26)).heap.size ≤ p1.heap.size := (by rw [hp]; exact leA)
  clear hp O
  have O := O'
  clear O'
  refine (cut_no s 47 _ HI.out).mono ?_
  rintro e w1 ⟨rfl, o1⟩
  replace B_r := Bx.old B_r o1
  replace O := Old.trans O o1
  have zw1 := o1.size
  have q_r_0 := B_r.cell 0 rfl
  have q_r_1 := B_r.cell 1 rfl
  have q_r_2 := B_r.cell 2 rfl
  have f_r_0 := B_r.frozen 0
  have f_r_1 := B_r.frozen 1
  have f_r_2 := B_r.frozen 2
  have q_r := B_r.lt
  go_wp2_with fail
  refine callsNamed ?_
  intro p2 hp
  clear q_r_0 q_r_1 q_r_2 f_r_0 f_r_1 f_r_2 q_r
  have O' : Old w p2 := (by rw [hp]; exact Below.trans (b := w1) O oldB)
  replace B_r : Bx p2 (w.heap.size) #[.bool false, .slice none 0 0, .slice none 0 0] := (by rw [hp]; repeat' (first | (with_reducible exact B_r) | (with_reducible refine Bx.alloc ?_ _) | (with_reducible refine Bx.drewN ?_ _) | (with_reducible refine Bx.drew ?_) | refine Bx.far ?_ (by first | assumption | (simp <;> done) | (simp; omega) | omega) _))
  have zp2 : w1.heap.size ≤ p2.heap.size := (by rw [hp]; exact leA)
  clear hp O
  have O := O'
  clear O'
  refine (implBig_c s z true _ HP.out HZ.out HT.out).mono ?_
  rintro e w2 ⟨⟨A1, c1, rfl, r1⟩, o2⟩
  replace B_r := Bx.old B_r o2
  replace O := Old.trans O o2
  have zw2 := o2.size
  replace r1 := Row.more (lo' := p2.heap.size) r1 leA
  have lim_r1 := Row.lim r1
  have q_r_0 := B_r.cell 0 rfl
  have q_r_1 := B_r.cell 1 rfl
  have q_r_2 := B_r.cell 2 rfl
  have f_r_0 := B_r.frozen 0
  have f_r_1 := B_r.frozen 1
  have f_r_2 := B_r.frozen 2
  have q_r := B_r.lt
  go_wp2_with fail
  refine callsNamed ?_
  intro p3 hp
  clear q_r_0 q_r_1 q_r_2 f_r_0 f_r_1 f_r_2 q_r
  have O' : Old w p3 := (by rw [hp]; exact Below.trans (b := w2) O oldB)
  replace B_r : Bx p3 (w.heap.size) #[.bool false, .slice none 0 0, .slice none 0 0] := (by rw [hp]; repeat' (first | (with_reducible exact B_r) | (with_reducible refine Bx.alloc ?_ _) | (with_reducible refine Bx.drewN ?_ _) | (with_reducible refine Bx.drew ?_) | refine Bx.far ?_ (by first | assumption | (simp <;> done) | (simp; omega) | omega) _))
  replace r1 := Row.at r1 p3 (by rw [hp]; repeat' (first | (with_reducible exact r1) | (with_reducible refine Row.alloc' ?_ _) | (with_reducible refine Row.drewN ?_ _) | (with_reducible refine Row.drew' ?_) | refine Row.far_off ?_ (by assumption) _ | refine Row.far_set ?_ (by first | (simp <;> done) | (simp; omega) | omega) _))
  have B_n : Bx p3 (w2.heap.size) #[.bool (sgnZ z), .slice A1 (len (magZ z)) c1] := (by rw [hp]; repeat' (first | (exact Bx.newAt3 (by first | rfl | (simp <;> done))) | (exact Bx.put2 (Bx.newAt3 (by first | rfl | (simp <;> done))) _ _) | (with_reducible refine Bx.alloc ?_ _) | (with_reducible refine Bx.drewN ?_ _) | (with_reducible refine Bx.drew ?_) | refine Bx.far ?_ (by first | assumption | (simp <;> done) | (simp; omega) | omega) _))
  have lt_n := B_n.lt
  have ne_n_r : ¬ (w2.heap.size = w.heap.size) := by omega
  have en_n_r : ¬ (w.heap.size = w2.heap.size) := by omega
  have B_l : Bx p3 (w2.heap.size + 1) #[.int .i64 1] := (by rw [hp]; repeat' (first | (exact Bx.newAt3 (by first | rfl | (simp <;> done))) | (with_reducible refine Bx.alloc ?_ _) | (with_reducible refine Bx.drewN ?_ _) | (with_reducible refine Bx.drew ?_) | refine Bx.far ?_ (by first | assumption | (simp <;> done) | (simp; omega) | omega) _))
  have lt_l := B_l.lt
  have ne_l_r : ¬ (w2.heap.size + 1 = w.heap.size) := by omega
  have en_l_r : ¬ (w.heap.size = w2.heap.size + 1) := by omega
  have ne_l_n : ¬ (w2.heap.size + 1 = w2.heap.size) := by omega
  have en_l_n : ¬ (w2.heap.size = w2.heap.size + 1) := by omega
  have B_q : Bx p3 (w2.heap.size + 1 + 1) #[.bool (sgnZ z), .slice A1 (len (magZ z)) c1, .slice (some ⟨w2.heap.size + 1, 0, none⟩) (len 1) 1] := (by rw [hp, one_len]; repeat' (first | (exact Bx.newAt3 (by first | rfl | (simp <;> done))) | (exact Bx.put3 (Bx.newAt3 (by first | rfl | (simp <;> done))) _ _ _) | (with_reducible refine Bx.alloc ?_ _) | (with_reducible refine Bx.drewN ?_ _) | (with_reducible refine Bx.drew ?_) | refine Bx.far ?_ (by first | assumption | (simp <;> done) | (simp; omega) | omega) _))
  have lt_q := B_q.lt
  have ne_q_r : ¬ (w2.heap.size + 1 + 1 = w.heap.size) := by omega
  have en_q_r : ¬ (w.heap.size = w2.heap.size + 1 + 1) := by omega
  have ne_q_n : ¬ (w2.heap.size + 1 + 1 = w2.heap.size) := by omega
  have en_q_n : ¬ (w2.heap.size = w2.heap.size + 1 + 1) := by omega
  have ne_q_l : ¬ (w2.heap.size + 1 + 1 = w2.heap.size + 1) := by omega
  have en_q_l : ¬ (w2.heap.size + 1 = w2.heap.size + 1 + 1) := by omega
  have zp3 : w2.heap.size ≤ p3.heap.size := (by rw [hp]; exact leA)
  clear hp O
  have O := O'
  clear O'
  have rl := one_box B_l (lo := w2.heap.size) (by omega)
  refine (plain_to (by rw [rRatOk_no K3.out]) (impl_RatOk (sgnZ z) A1 (len (magZ z)) c1 _ (digI (magZ z)) (some ⟨w2.heap.size + 1, 0, none⟩) (len 1) 1 _ (digI 1) _ r1 rl (by omega) (by omega))).mono ?_
  rintro e w3 ⟨rfl, o3⟩
  replace B_r := Bx.old B_r o3
  replace B_n := Bx.old B_n o3
  replace B_l := Bx.old B_l o3
  replace B_q := Bx.old B_q o3
  replace r1 := Row.below r1 o3 (Nat.le_refl _)
  replace rl := Row.below rl o3 (Nat.le_refl _)
  replace O := Old.trans O o3
  have zw3 := o3.size
  have q_r_0 := B_r.cell 0 rfl
  have q_r_1 := B_r.cell 1 rfl
  have q_r_2 := B_r.cell 2 rfl
  have f_r_0 := B_r.frozen 0
  have f_r_1 := B_r.frozen 1
  have f_r_2 := B_r.frozen 2
  have q_r := B_r.lt
  have q_n_0 := B_n.cell 0 rfl
  have q_n_1 := B_n.cell 1 rfl
  have f_n_0 := B_n.frozen 0
  have f_n_1 := B_n.frozen 1
  have q_n := B_n.lt
  have q_l_0 := B_l.cell 0 rfl
  have f_l_0 := B_l.frozen 0
  have q_l := B_l.lt
  have q_q_0 := B_q.cell 0 rfl
  have q_q_1 := B_q.cell 1 rfl
  have q_q_2 := B_q.cell 2 rfl
  have f_q_0 := B_q.frozen 0
  have f_q_1 := B_q.frozen 1
  have f_q_2 := B_q.frozen 2
  have q_q := B_q.lt
  go_wp2
  refine bodyPost_ret (v := .tuple #[.agg #[.bool false, .slice none 0 0, .slice none 0 0], .bool false]) (by simp [results, Tryz.results6, go_sem, q_r_0, q_r_1, q_r_2]) rfl ⟨RetRB.zero rfl, Below.trans (b := w3) O oldB⟩
set_option maxRecDepth 100000 in
set_option maxHeartbeats 8000000 in
theorem impl_ParseRat_one_no4 (s : ByteArray) (z : Int) (w : World) (b : s.size ≤ 1048576) (K : KT w) (b1 : Bool) (hidx : Lib.indexByte s.data.toList 47 = -1) (hz : zParseBigInt s = z) (ht : rParseBigInt1 s = b1) (k1 : b1 = true) (k3 : okR (sgnZ z) (len (magZ z)) (digI (magZ z)) (len 1) (digI 1)) (k4 : ¬ txQ z 1 = s) :
    Calls Tryz.prog 6 #[.string s] w fun e w' => RetRB e w' w.heap.size (0, 0) false ∧ Old w w' := by
  subst k1
  have hlz : len (magZ z) ≤ 60 := by rw [← hz]; exact zParseBigInt_len _
  have HZ := Lib.hid hz
  have HT := Lib.hid ht
  clear hz ht
  have hld : len 1 ≤ 60 := by rw [one_len]; omega
  have HI := Lib.hid hidx
  clear hidx
  have HP : Hid (s.size ≤ maxLen) := Lib.hid (by unfold maxLen; omega)
  have K3 := Lib.hid k3
  clear k3
  have hs3 := textQ_neq k4
  clear k4
  have O : Old w (w.alloc (.cells #[.bool false, .slice none 0 0, .slice none 0 0] 26)) := oldB
  have B_r : Bx (w.alloc (.cells #[.bool false, .slice none 0 0, .slice none 0 0] 26)) (w.heap.size) #[.bool false, .slice none 0 0, .slice none 0 0] := by have h := (Bx.new w #[.bool false, .slice none 0 0, .slice none 0 0] 26); simpa using h
  have ze : w.heap.size + 1 ≤ (w.alloc (.cells #[.bool false, .slice none 0 0, .slice none 0 0] 26)).heap.size := (by simp)
  go_enter Tryz.func6, Tryz.ntmps6
  go_wp2_with fail
  refine callsNamed ?_
  intro p1 hp
  have O' : Old w p1 := (by rw [hp]; exact Below.trans (b := (w.alloc (.cells #[.bool false, .slice none 0 0, .slice none 0 0] 26))) O oldB)
  replace B_r : Bx p1 (w.heap.size) #[.bool false, .slice none 0 0, .slice none 0 0] := (by rw [hp]; repeat' (first | (with_reducible exact B_r) | (with_reducible refine Bx.alloc ?_ _) | (with_reducible refine Bx.drewN ?_ _) | (with_reducible refine Bx.drew ?_) | refine Bx.far ?_ (by first | assumption | (simp <;> done) | (simp; omega) | omega) _))
  have zp1 : (w.alloc (.cells #[.bool false, .slice none 0 0, .slice none 0 0] 26)).heap.size ≤ p1.heap.size := (by rw [hp]; exact leA)
  clear hp O
  have O := O'
  clear O'
  refine (cut_no s 47 _ HI.out).mono ?_
  rintro e w1 ⟨rfl, o1⟩
  replace B_r := Bx.old B_r o1
  replace O := Old.trans O o1
  have zw1 := o1.size
  have q_r_0 := B_r.cell 0 rfl
  have q_r_1 := B_r.cell 1 rfl
  have q_r_2 := B_r.cell 2 rfl
  have f_r_0 := B_r.frozen 0
  have f_r_1 := B_r.frozen 1
  have f_r_2 := B_r.frozen 2
  have q_r := B_r.lt
  go_wp2_with fail
  refine callsNamed ?_
  intro p2 hp
  clear q_r_0 q_r_1 q_r_2 f_r_0 f_r_1 f_r_2 q_r
  have O' : Old w p2 := (by rw [hp]; exact Below.trans (b := w1) O oldB)
  replace B_r : Bx p2 (w.heap.size) #[.bool false, .slice none 0 0, .slice none 0 0] := (by rw [hp]; repeat' (first | (with_reducible exact B_r) | (with_reducible refine Bx.alloc ?_ _) | (with_reducible refine Bx.drewN ?_ _) | (with_reducible refine Bx.drew ?_) | refine Bx.far ?_ (by first | assumption | (simp <;> done) | (simp; omega) | omega) _))
  have zp2 : w1.heap.size ≤ p2.heap.size := (by rw [hp]; exact leA)
  clear hp O
  have O := O'
  clear O'
  refine (implBig_c s z true _ HP.out HZ.out HT.out).mono ?_
  rintro e w2 ⟨⟨A1, c1, rfl, r1⟩, o2⟩
  replace B_r := Bx.old B_r o2
  replace O := Old.trans O o2
  have zw2 := o2.size
  replace r1 := Row.more (lo' := p2.heap.size) r1 leA
  have lim_r1 := Row.lim r1
  have q_r_0 := B_r.cell 0 rfl
  have q_r_1 := B_r.cell 1 rfl
  have q_r_2 := B_r.cell 2 rfl
  have f_r_0 := B_r.frozen 0
  have f_r_1 := B_r.frozen 1
  have f_r_2 := B_r.frozen 2
  have q_r := B_r.lt
  go_wp2_with fail
  refine callsNamed ?_
  intro p3 hp
  clear q_r_0 q_r_1 q_r_2 f_r_0 f_r_1 f_r_2 q_r
  have O' : Old w p3 := (by rw [hp]; exact Below.trans (b := w2) O oldB)
  replace B_r : Bx p3 (w.heap.size) #[.bool false, .slice none 0 0, .slice none 0 0] := (by rw [hp]; repeat' (first | (with_reducible exact B_r) | (with_reducible refine Bx.alloc ?_ _) | (with_reducible refine Bx.drewN ?_ _) | (with_reducible refine Bx.drew ?_) | refine Bx.far ?_ (by first | assumption | (simp <;> done) | (simp; omega) | omega) _))
  replace r1 := Row.at r1 p3 (by rw [hp]; repeat' (first | (with_reducible exact r1) | (with_reducible refine Row.alloc' ?_ _) | (with_reducible refine Row.drewN ?_ _) | (with_reducible refine Row.drew' ?_) | refine Row.far_off ?_ (by assumption) _ | refine Row.far_set ?_ (by first | (simp <;> done) | (simp; omega) | omega) _))
  have B_n : Bx p3 (w2.heap.size) #[.bool (sgnZ z), .slice A1 (len (magZ z)) c1] := (by rw [hp]; repeat' (first | (exact Bx.newAt3 (by first | rfl | (simp <;> done))) | (exact Bx.put2 (Bx.newAt3 (by first | rfl | (simp <;> done))) _ _) | (with_reducible refine Bx.alloc ?_ _) | (with_reducible refine Bx.drewN ?_ _) | (with_reducible refine Bx.drew ?_) | refine Bx.far ?_ (by first | assumption | (simp <;> done) | (simp; omega) | omega) _))
  have lt_n := B_n.lt
  have ne_n_r : ¬ (w2.heap.size = w.heap.size) := by omega
  have en_n_r : ¬ (w.heap.size = w2.heap.size) := by omega
  have B_l : Bx p3 (w2.heap.size + 1) #[.int .i64 1] := (by rw [hp]; repeat' (first | (exact Bx.newAt3 (by first | rfl | (simp <;> done))) | (with_reducible refine Bx.alloc ?_ _) | (with_reducible refine Bx.drewN ?_ _) | (with_reducible refine Bx.drew ?_) | refine Bx.far ?_ (by first | assumption | (simp <;> done) | (simp; omega) | omega) _))
  have lt_l := B_l.lt
  have ne_l_r : ¬ (w2.heap.size + 1 = w.heap.size) := by omega
  have en_l_r : ¬ (w.heap.size = w2.heap.size + 1) := by omega
  have ne_l_n : ¬ (w2.heap.size + 1 = w2.heap.size) := by omega
  have en_l_n : ¬ (w2.heap.size = w2.heap.size + 1) := by omega
  have B_q : Bx p3 (w2.heap.size + 1 + 1) #[.bool (sgnZ z), .slice A1 (len (magZ z)) c1, .slice (some ⟨w2.heap.size + 1, 0, none⟩) (len 1) 1] := (by rw [hp, one_len]; repeat' (first | (exact Bx.newAt3 (by first | rfl | (simp <;> done))) | (exact Bx.put3 (Bx.newAt3 (by first | rfl | (simp <;> done))) _ _ _) | (with_reducible refine Bx.alloc ?_ _) | (with_reducible refine Bx.drewN ?_ _) | (with_reducible refine Bx.drew ?_) | refine Bx.far ?_ (by first | assumption | (simp <;> done) | (simp; omega) | omega) _))
  have lt_q := B_q.lt
  have ne_q_r : ¬ (w2.heap.size + 1 + 1 = w.heap.size) := by omega
  have en_q_r : ¬ (w.heap.size = w2.heap.size + 1 + 1) := by omega
  have ne_q_n : ¬ (w2.heap.size + 1 + 1 = w2.heap.size) := by omega
  have en_q_n : ¬ (w2.heap.size = w2.heap.size + 1 + 1) := by omega
  have ne_q_l : ¬ (w2.heap.size + 1 + 1 = w2.heap.size + 1) := by omega
  have en_q_l : ¬ (w2.heap.size + 1 = w2.heap.size + 1 + 1) := by omega
  have zp3 : w2.heap.size ≤ p3.heap.size := (by rw [hp]; exact leA)
  clear hp O
  have O := O'
  clear O'
  have rl := one_box B_l (lo := w2.heap.size) (by omega)
  refine (plain_to (by rw [rRatOk_yes K3.out]) (impl_RatOk (sgnZ z) A1 (len (magZ z)) c1 _ (digI (magZ z)) (some ⟨w2.heap.size + 1, 0, none⟩) (len 1) 1 _ (digI 1) _ r1 rl (by omega) (by omega))).mono ?_
  rintro e w3 ⟨rfl, o3⟩
  replace B_r := Bx.old B_r o3
  replace B_n := Bx.old B_n o3
  replace B_l := Bx.old B_l o3
  replace B_q := Bx.old B_q o3
  replace r1 := Row.below r1 o3 (Nat.le_refl _)
  replace rl := Row.below rl o3 (Nat.le_refl _)
  replace O := Old.trans O o3
  have zw3 := o3.size
  have q_r_0 := B_r.cell 0 rfl
  have q_r_1 := B_r.cell 1 rfl
  have q_r_2 := B_r.cell 2 rfl
  have f_r_0 := B_r.frozen 0
  have f_r_1 := B_r.frozen 1
  have f_r_2 := B_r.frozen 2
  have q_r := B_r.lt
  have q_n_0 := B_n.cell 0 rfl
  have q_n_1 := B_n.cell 1 rfl
  have f_n_0 := B_n.frozen 0
  have f_n_1 := B_n.frozen 1
  have q_n := B_n.lt
  have q_l_0 := B_l.cell 0 rfl
  have f_l_0 := B_l.frozen 0
  have q_l := B_l.lt
  have q_q_0 := B_q.cell 0 rfl
  have q_q_1 := B_q.cell 1 rfl
  have q_q_2 := B_q.cell 2 rfl
  have f_q_0 := B_q.frozen 0
  have f_q_1 := B_q.frozen 1
  have f_q_2 := B_q.frozen 2
  have q_q := B_q.lt
  go_wp2_with fail
  refine callsNamed ?_
  intro p4 hp
  clear q_r_0 q_r_1 q_r_2 f_r_0 f_r_1 f_r_2 q_r q_n_0 q_n_1 f_n_0 f_n_1 q_n q_l_0 f_l_0 q_l q_q_0 q_q_1 q_q_2 f_q_0 f_q_1 f_q_2 q_q
  have O' : Old w p4 := (by rw [hp]; exact Below.trans (b := w3) O oldB)
  replace B_r : Bx p4 (w.heap.size) #[.bool false, .slice none 0 0, .slice none 0 0] := (by rw [hp]; repeat' (first | (with_reducible exact B_r) | (with_reducible refine Bx.alloc ?_ _) | (with_reducible refine Bx.drewN ?_ _) | (with_reducible refine Bx.drew ?_) | refine Bx.far ?_ (by first | assumption | (simp <;> done) | (simp; omega) | omega) _))
  replace B_n : Bx p4 (w2.heap.size) #[.bool (sgnZ z), .slice A1 (len (magZ z)) c1] := (by rw [hp]; repeat' (first | (with_reducible exact B_n) | (with_reducible refine Bx.alloc ?_ _) | (with_reducible refine Bx.drewN ?_ _) | (with_reducible refine Bx.drew ?_) | refine Bx.far ?_ (by first | assumption | (simp <;> done) | (simp; omega) | omega) _))
  replace B_l : Bx p4 (w2.heap.size + 1) #[.int .i64 1] := (by rw [hp]; repeat' (first | (with_reducible exact B_l) | (with_reducible refine Bx.alloc ?_ _) | (with_reducible refine Bx.drewN ?_ _) | (with_reducible refine Bx.drew ?_) | refine Bx.far ?_ (by first | assumption | (simp <;> done) | (simp; omega) | omega) _))
  replace B_q : Bx p4 (w2.heap.size + 1 + 1) #[.bool (sgnZ z), .slice A1 (len (magZ z)) c1, .slice (some ⟨w2.heap.size + 1, 0, none⟩) (len 1) 1] := (by rw [hp]; repeat' (first | (with_reducible exact B_q) | (with_reducible refine Bx.alloc ?_ _) | (with_reducible refine Bx.drewN ?_ _) | (with_reducible refine Bx.drew ?_) | refine Bx.far ?_ (by first | assumption | (simp <;> done) | (simp; omega) | omega) _))
  replace r1 := Row.at r1 p4 (by rw [hp]; repeat' (first | (with_reducible exact r1) | (with_reducible refine Row.alloc' ?_ _) | (with_reducible refine Row.drewN ?_ _) | (with_reducible refine Row.drew' ?_) | refine Row.far_off ?_ (by assumption) _ | refine Row.far_set ?_ (by first | (simp <;> done) | (simp; omega) | omega) _))
  replace rl := Row.at rl p4 (by rw [hp]; repeat' (first | (with_reducible exact rl) | (with_reducible refine Row.alloc' ?_ _) | (with_reducible refine Row.drewN ?_ _) | (with_reducible refine Row.drew' ?_) | refine Row.far_off ?_ (by assumption) _ | refine Row.far_set ?_ (by first | (simp <;> done) | (simp; omega) | omega) _))
  have zp4 : w3.heap.size ≤ p4.heap.size := (by rw [hp]; exact leA)
  clear hp O
  have O := O'
  clear O'
  refine (formatRat_any (sgnZ z) A1 (len (magZ z)) c1 _ (digI (magZ z)) (some ⟨w2.heap.size + 1, 0, none⟩) (len 1) 1 _ (digI 1) _ r1 rl K3.out (KT.old K O)).mono ?_
  rintro e w4 ⟨rfl, o4⟩
  replace B_r := Bx.old B_r o4
  replace B_n := Bx.old B_n o4
  replace B_l := Bx.old B_l o4
  replace B_q := Bx.old B_q o4
  replace r1 := Row.below r1 o4 (Nat.le_refl _)
  replace rl := Row.below rl o4 (Nat.le_refl _)
  replace O := Old.trans O o4
  have zw4 := o4.size
  rw [show ratT (sgnZ z) (len (magZ z)) (digI (magZ z)) (len 1) (digI 1) = txQ z 1 from rfl]
  have q_r_0 := B_r.cell 0 rfl
  have q_r_1 := B_r.cell 1 rfl
  have q_r_2 := B_r.cell 2 rfl
  have f_r_0 := B_r.frozen 0
  have f_r_1 := B_r.frozen 1
  have f_r_2 := B_r.frozen 2
  have q_r := B_r.lt
  have q_n_0 := B_n.cell 0 rfl
  have q_n_1 := B_n.cell 1 rfl
  have f_n_0 := B_n.frozen 0
  have f_n_1 := B_n.frozen 1
  have q_n := B_n.lt
  have q_l_0 := B_l.cell 0 rfl
  have f_l_0 := B_l.frozen 0
  have q_l := B_l.lt
  have q_q_0 := B_q.cell 0 rfl
  have q_q_1 := B_q.cell 1 rfl
  have q_q_2 := B_q.cell 2 rfl
  have f_q_0 := B_q.frozen 0
  have f_q_1 := B_q.frozen 1
  have f_q_2 := B_q.frozen 2
  have q_q := B_q.lt
  go_wp2
  refine bodyPost_ret (v := .tuple #[.agg #[.bool false, .slice none 0 0, .slice none 0 0], .bool false]) (by simp [results, Tryz.results6, go_sem, q_r_0, q_r_1, q_r_2]) rfl ⟨RetRB.zero rfl, Below.trans (b := w4) O oldB⟩
set_option maxRecDepth 100000 in
set_option maxHeartbeats 8000000 in
theorem impl_ParseRat_one_yes (s : ByteArray) (z : Int) (w : World) (b : s.size ≤ 1048576) (K : KT w) (b1 : Bool) (hidx : Lib.indexByte s.data.toList 47 = -1) (hz : zParseBigInt s = z) (ht : rParseBigInt1 s = b1) (k1 : b1 = true) (k3 : okR (sgnZ z) (len (magZ z)) (digI (magZ z)) (len 1) (digI 1)) (k4 : txQ z 1 = s) :
    Calls Tryz.prog 6 #[.string s] w fun e w' => RetRB e w' w.heap.size (z, 1) true ∧ Old w w' := by
  subst k1
  have hlz : len (magZ z) ≤ 60 := by rw [← hz]; exact zParseBigInt_len _
  have HZ := Lib.hid hz
  have HT := Lib.hid ht
  clear hz ht
  have hld : len 1 ≤ 60 := by rw [one_len]; omega
  have HI := Lib.hid hidx
  clear hidx
  have HP : Hid (s.size ≤ maxLen) := Lib.hid (by unfold maxLen; omega)
  have K3 := Lib.hid k3
  clear k3
  have K4 := Lib.hid k4
  clear k4
  have O : Old w (w.alloc (.cells #[.bool false, .slice none 0 0, .slice none 0 0] 26)) := oldB
  have B_r : Bx (w.alloc (.cells #[.bool false, .slice none 0 0, .slice none 0 0] 26)) (w.heap.size) #[.bool false, .slice none 0 0, .slice none 0 0] := by have h := (Bx.new w #[.bool false, .slice none 0 0, .slice none 0 0] 26); simpa using h
  have ze : w.heap.size + 1 ≤ (w.alloc (.cells #[.bool false, .slice none 0 0, .slice none 0 0] 26)).heap.size := (by simp)
  go_enter Tryz.func6, Tryz.ntmps6
  go_wp2_with fail
  refine callsNamed ?_
  intro p1 hp
  have O' : Old w p1 := (by rw [hp]; exact Below.trans (b := (w.alloc (.cells #[.bool false, .slice none 0 0, .slice none 0 0] 26))) O oldB)
  replace B_r : Bx p1 (w.heap.size) #[.bool false, .slice none 0 0, .slice none 0 0] := (by rw [hp]; repeat' (first | (with_reducible exact B_r) | (with_reducible refine Bx.alloc ?_ _) | (with_reducible refine Bx.drewN ?_ _) | (with_reducible refine Bx.drew ?_) | refine Bx.far ?_ (by first | assumption | (simp <;> done) | (simp; omega) | omega) _))
  have zp1 : (w.alloc (.cells #[.bool false, .slice none 0 0, .slice none 0 0] 26)).heap.size ≤ p1.heap.size := (by rw [hp]; exact leA)
  clear hp O
  have O := O'
  clear O'
  refine (cut_no s 47 _ HI.out).mono ?_
  rintro e w1 ⟨rfl, o1⟩
  replace B_r := Bx.old B_r o1
  replace O := Old.trans O o1
  have zw1 := o1.size
  have q_r_0 := B_r.cell 0 rfl
  have q_r_1 := B_r.cell 1 rfl
  have q_r_2 := B_r.cell 2 rfl
  have f_r_0 := B_r.frozen 0
  have f_r_1 := B_r.frozen 1
  have f_r_2 := B_r.frozen 2
  have q_r := B_r.lt
  go_wp2_with fail
  refine callsNamed ?_
  intro p2 hp
  clear q_r_0 q_r_1 q_r_2 f_r_0 f_r_1 f_r_2 q_r
  have O' : Old w p2 := (by rw [hp]; exact Below.trans (b := w1) O oldB)
  replace B_r : Bx p2 (w.heap.size) #[.bool false, .slice none 0 0, .slice none 0 0] := (by rw [hp]; repeat' (first | (with_reducible exact B_r) | (with_reducible refine Bx.alloc ?_ _) | (with_reducible refine Bx.drewN ?_ _) | (with_reducible refine Bx.drew ?_) | refine Bx.far ?_ (by first | assumption | (simp <;> done) | (simp; omega) | omega) _))
  have zp2 : w1.heap.size ≤ p2.heap.size := (by rw [hp]; exact leA)
  clear hp O
  have O := O'
  clear O'
  refine (implBig_c s z true _ HP.out HZ.out HT.out).mono ?_
  rintro e w2 ⟨⟨A1, c1, rfl, r1⟩, o2⟩
  replace B_r := Bx.old B_r o2
  replace O := Old.trans O o2
  have zw2 := o2.size
  replace r1 := Row.more (lo' := p2.heap.size) r1 leA
  have lim_r1 := Row.lim r1
  have q_r_0 := B_r.cell 0 rfl
  have q_r_1 := B_r.cell 1 rfl
  have q_r_2 := B_r.cell 2 rfl
  have f_r_0 := B_r.frozen 0
  have f_r_1 := B_r.frozen 1
  have f_r_2 := B_r.frozen 2
  have q_r := B_r.lt
  go_wp2_with fail
  refine callsNamed ?_
  intro p3 hp
  clear q_r_0 q_r_1 q_r_2 f_r_0 f_r_1 f_r_2 q_r
  have O' : Old w p3 := (by rw [hp]; exact Below.trans (b := w2) O oldB)
  replace B_r : Bx p3 (w.heap.size) #[.bool false, .slice none 0 0, .slice none 0 0] := (by rw [hp]; repeat' (first | (with_reducible exact B_r) | (with_reducible refine Bx.alloc ?_ _) | (with_reducible refine Bx.drewN ?_ _) | (with_reducible refine Bx.drew ?_) | refine Bx.far ?_ (by first | assumption | (simp <;> done) | (simp; omega) | omega) _))
  replace r1 := Row.at r1 p3 (by rw [hp]; repeat' (first | (with_reducible exact r1) | (with_reducible refine Row.alloc' ?_ _) | (with_reducible refine Row.drewN ?_ _) | (with_reducible refine Row.drew' ?_) | refine Row.far_off ?_ (by assumption) _ | refine Row.far_set ?_ (by first | (simp <;> done) | (simp; omega) | omega) _))
  have B_n : Bx p3 (w2.heap.size) #[.bool (sgnZ z), .slice A1 (len (magZ z)) c1] := (by rw [hp]; repeat' (first | (exact Bx.newAt3 (by first | rfl | (simp <;> done))) | (exact Bx.put2 (Bx.newAt3 (by first | rfl | (simp <;> done))) _ _) | (with_reducible refine Bx.alloc ?_ _) | (with_reducible refine Bx.drewN ?_ _) | (with_reducible refine Bx.drew ?_) | refine Bx.far ?_ (by first | assumption | (simp <;> done) | (simp; omega) | omega) _))
  have lt_n := B_n.lt
  have ne_n_r : ¬ (w2.heap.size = w.heap.size) := by omega
  have en_n_r : ¬ (w.heap.size = w2.heap.size) := by omega
  have B_l : Bx p3 (w2.heap.size + 1) #[.int .i64 1] := (by rw [hp]; repeat' (first | (exact Bx.newAt3 (by first | rfl | (simp <;> done))) | (with_reducible refine Bx.alloc ?_ _) | (with_reducible refine Bx.drewN ?_ _) | (with_reducible refine Bx.drew ?_) | refine Bx.far ?_ (by first | assumption | (simp <;> done) | (simp; omega) | omega) _))
  have lt_l := B_l.lt
  have ne_l_r : ¬ (w2.heap.size + 1 = w.heap.size) := by omega
  have en_l_r : ¬ (w.heap.size = w2.heap.size + 1) := by omega
  have ne_l_n : ¬ (w2.heap.size + 1 = w2.heap.size) := by omega
  have en_l_n : ¬ (w2.heap.size = w2.heap.size + 1) := by omega
  have B_q : Bx p3 (w2.heap.size + 1 + 1) #[.bool (sgnZ z), .slice A1 (len (magZ z)) c1, .slice (some ⟨w2.heap.size + 1, 0, none⟩) (len 1) 1] := (by rw [hp, one_len]; repeat' (first | (exact Bx.newAt3 (by first | rfl | (simp <;> done))) | (exact Bx.put3 (Bx.newAt3 (by first | rfl | (simp <;> done))) _ _ _) | (with_reducible refine Bx.alloc ?_ _) | (with_reducible refine Bx.drewN ?_ _) | (with_reducible refine Bx.drew ?_) | refine Bx.far ?_ (by first | assumption | (simp <;> done) | (simp; omega) | omega) _))
  have lt_q := B_q.lt
  have ne_q_r : ¬ (w2.heap.size + 1 + 1 = w.heap.size) := by omega
  have en_q_r : ¬ (w.heap.size = w2.heap.size + 1 + 1) := by omega
  have ne_q_n : ¬ (w2.heap.size + 1 + 1 = w2.heap.size) := by omega
  have en_q_n : ¬ (w2.heap.size = w2.heap.size + 1 + 1) := by omega
  have ne_q_l : ¬ (w2.heap.size + 1 + 1 = w2.heap.size + 1) := by omega
  have en_q_l : ¬ (w2.heap.size + 1 = w2.heap.size + 1 + 1) := by omega
  have zp3 : w2.heap.size ≤ p3.heap.size := (by rw [hp]; exact leA)
  clear hp O
  have O := O'
  clear O'
  have rl := one_box B_l (lo := w2.heap.size) (by omega)
  refine (plain_to (by rw [rRatOk_yes K3.out]) (impl_RatOk (sgnZ z) A1 (len (magZ z)) c1 _ (digI (magZ z)) (some ⟨w2.heap.size + 1, 0, none⟩) (len 1) 1 _ (digI 1) _ r1 rl (by omega) (by omega))).mono ?_
  rintro e w3 ⟨rfl, o3⟩
  replace B_r := Bx.old B_r o3
  replace B_n := Bx.old B_n o3
  replace B_l := Bx.old B_l o3
  replace B_q := Bx.old B_q o3
  replace r1 := Row.below r1 o3 (Nat.le_refl _)
  replace rl := Row.below rl o3 (Nat.le_refl _)
  replace O := Old.trans O o3
  have zw3 := o3.size
  have q_r_0 := B_r.cell 0 rfl
  have q_r_1 := B_r.cell 1 rfl
  have q_r_2 := B_r.cell 2 rfl
  have f_r_0 := B_r.frozen 0
  have f_r_1 := B_r.frozen 1
  have f_r_2 := B_r.frozen 2
  have q_r := B_r.lt
  have q_n_0 := B_n.cell 0 rfl
  have q_n_1 := B_n.cell 1 rfl
  have f_n_0 := B_n.frozen 0
  have f_n_1 := B_n.frozen 1
  have q_n := B_n.lt
  have q_l_0 := B_l.cell 0 rfl
  have f_l_0 := B_l.frozen 0
  have q_l := B_l.lt
  have q_q_0 := B_q.cell 0 rfl
  have q_q_1 := B_q.cell 1 rfl
  have q_q_2 := B_q.cell 2 rfl
  have f_q_0 := B_q.frozen 0
  have f_q_1 := B_q.frozen 1
  have f_q_2 := B_q.frozen 2
  have q_q := B_q.lt
  go_wp2_with fail
  refine callsNamed ?_
  intro p4 hp
  clear q_r_0 q_r_1 q_r_2 f_r_0 f_r_1 f_r_2 q_r q_n_0 q_n_1 f_n_0 f_n_1 q_n q_l_0 f_l_0 q_l q_q_0 q_q_1 q_q_2 f_q_0 f_q_1 f_q_2 q_q
  have O' : Old w p4 := (by rw [hp]; exact Below.trans (b := w3) O oldB)
  replace B_r : Bx p4 (w.heap.size) #[.bool false, .slice none 0 0, .slice none 0 0] := (by rw [hp]; repeat' (first | (with_reducible exact B_r) | (with_reducible refine Bx.alloc ?_ _) | (with_reducible refine Bx.drewN ?_ _) | (with_reducible refine Bx.drew ?_) | refine Bx.far ?_ (by first | assumption | (simp <;> done) | (simp; omega) | omega) _))
  replace B_n : Bx p4 (w2.heap.size) #[.bool (sgnZ z), .slice A1 (len (magZ z)) c1] := (by rw [hp]; repeat' (first | (with_reducible exact B_n) | (with_reducible refine Bx.alloc ?_ _) | (with_reducible refine Bx.drewN ?_ _) | (with_reducible refine Bx.drew ?_) | refine Bx.far ?_ (by first | assumption | (simp <;> done) | (simp; omega) | omega) _))
  replace B_l : Bx p4 (w2.heap.size + 1) #[.int .i64 1] := (by rw [hp]; repeat' (first | (with_reducible exact B_l) | (with_reducible refine Bx.alloc ?_ _) | (with_reducible refine Bx.drewN ?_ _) | (with_reducible refine Bx.drew ?_) | refine Bx.far ?_ (by first | assumption | (simp <;> done) | (simp; omega) | omega) _))
  replace B_q : Bx p4 (w2.heap.size + 1 + 1) #[.bool (sgnZ z), .slice A1 (len (magZ z)) c1, .slice (some ⟨w2.heap.size + 1, 0, none⟩) (len 1) 1] := (by rw [hp]; repeat' (first | (with_reducible exact B_q) | (with_reducible refine Bx.alloc ?_ _) | (with_reducible refine Bx.drewN ?_ _) | (with_reducible refine Bx.drew ?_) | refine Bx.far ?_ (by first | assumption | (simp <;> done) | (simp; omega) | omega) _))
  replace r1 := Row.at r1 p4 (by rw [hp]; repeat' (first | (with_reducible exact r1) | (with_reducible refine Row.alloc' ?_ _) | (with_reducible refine Row.drewN ?_ _) | (with_reducible refine Row.drew' ?_) | refine Row.far_off ?_ (by assumption) _ | refine Row.far_set ?_ (by first | (simp <;> done) | (simp; omega) | omega) _))
  replace rl := Row.at rl p4 (by rw [hp]; repeat' (first | (with_reducible exact rl) | (with_reducible refine Row.alloc' ?_ _) | (with_reducible refine Row.drewN ?_ _) | (with_reducible refine Row.drew' ?_) | refine Row.far_off ?_ (by assumption) _ | refine Row.far_set ?_ (by first | (simp <;> done) | (simp; omega) | omega) _))
  have zp4 : w3.heap.size ≤ p4.heap.size := (by rw [hp]; exact leA)
  clear hp O
  have O := O'
  clear O'
  refine (formatRat_any (sgnZ z) A1 (len (magZ z)) c1 _ (digI (magZ z)) (some ⟨w2.heap.size + 1, 0, none⟩) (len 1) 1 _ (digI 1) _ r1 rl K3.out (KT.old K O)).mono ?_
  rintro e w4 ⟨rfl, o4⟩
  replace B_r := Bx.old B_r o4
  replace B_n := Bx.old B_n o4
  replace B_l := Bx.old B_l o4
  replace B_q := Bx.old B_q o4
  replace r1 := Row.below r1 o4 (Nat.le_refl _)
  replace rl := Row.below rl o4 (Nat.le_refl _)
  replace O := Old.trans O o4
  have zw4 := o4.size
  rw [show ratT (sgnZ z) (len (magZ z)) (digI (magZ z)) (len 1) (digI 1) = txQ z 1 from rfl]
  rw [K4.out]
  have q_r_0 := B_r.cell 0 rfl
  have q_r_1 := B_r.cell 1 rfl
  have q_r_2 := B_r.cell 2 rfl
  have f_r_0 := B_r.frozen 0
  have f_r_1 := B_r.frozen 1
  have f_r_2 := B_r.frozen 2
  have q_r := B_r.lt
  have q_n_0 := B_n.cell 0 rfl
  have q_n_1 := B_n.cell 1 rfl
  have f_n_0 := B_n.frozen 0
  have f_n_1 := B_n.frozen 1
  have q_n := B_n.lt
  have q_l_0 := B_l.cell 0 rfl
  have f_l_0 := B_l.frozen 0
  have q_l := B_l.lt
  have q_q_0 := B_q.cell 0 rfl
  have q_q_1 := B_q.cell 1 rfl
  have q_q_2 := B_q.cell 2 rfl
  have f_q_0 := B_q.frozen 0
  have f_q_1 := B_q.frozen 1
  have f_q_2 := B_q.frozen 2
  have q_q := B_q.lt
  go_wp2
  refine bodyPost_ret (v := .tuple #[.agg #[.bool (sgnZ z), .slice A1 (len (magZ z)) c1, .slice (some ⟨w2.heap.size + 1, 0, none⟩) (len 1) 1], .bool true]) (by simp [results, Tryz.results6, go_sem, q_r_0, q_r_1, q_r_2]) rfl ⟨⟨z, 1, A1, c1, (some ⟨w2.heap.size + 1, 0, none⟩), 1, rfl, rfl, ?_, ?_, Apart.of lim_r1 rl (by omega)⟩, ?_⟩
  · refine Row.more (lo := p2.heap.size) ?_ leA
    repeat' (first | (with_reducible exact r1) | (with_reducible refine Row.far_set ?_ (by first | (simp <;> done) | (simp; omega) | omega) _))
  · refine Row.more (lo := w2.heap.size) ?_ leA
    repeat' (first | (with_reducible exact rl) | (with_reducible refine Row.far_set ?_ (by first | (simp <;> done) | (simp; omega) | omega) _))
  · exact Below.trans (b := w4) O oldB
set_option maxRecDepth 100000 in
set_option maxHeartbeats 8000000 in
theorem impl_ParseRat_cut_no1 (s : ByteArray) (z : Int) (w : World) (b : s.size ≤ 1048576) (K : KT w) (sA sB : ByteArray) (d : Nat) (b1 b2 : Bool) (i : Nat) (hidx : Lib.indexByte s.data.toList 47 = (i : Int)) (hi : i < s.size) (e0 : s.extract 0 i = sA) (e1 : s.extract (i + 1) s.size = sB) (hz : zParseBigInt sA = z) (ht : rParseBigInt1 sA = b1) (hd : rParseNat sB = d) (hu : rParseNat1 sB = b2) (k1 : b1 = false) :
    Calls Tryz.prog 6 #[.string s] w fun e w' => RetRB e w' w.heap.size (0, 0) false ∧ Old w w' := by
  subst k1
  have hlz : len (magZ z) ≤ 60 := by rw [← hz]; exact zParseBigInt_len _
  have HZ := Lib.hid hz
  have HT := Lib.hid ht
  clear hz ht
  have hld : len d ≤ 60 := by rw [← hd]; exact rParseNat_len _
  have HD := Lib.hid hd
  have HU := Lib.hid hu
  clear hd hu
  have HI := Lib.hid hidx
  clear hidx
  have HP : Hid (sA.size ≤ maxLen) := Lib.hid (by rw [← e0, ByteArray.size_extract]; unfold maxLen; omega)
  have HQ : Hid (sB.size ≤ maxLen) := Lib.hid (by rw [← e1, ByteArray.size_extract]; unfold maxLen; omega)
  have E0 := Lib.hid e0
  have E1 := Lib.hid e1
  clear e0 e1
  have O : Old w (w.alloc (.cells #[.bool false, .slice none 0 0, .slice none 0 0] 26)) := oldB
  have B_r : Bx (w.alloc (.cells #[.bool false, .slice none 0 0, .slice none 0 0] 26)) (w.heap.size) #[.bool false, .slice none 0 0, .slice none 0 0] := by have h := (Bx.new w #[.bool false, .slice none 0 0, .slice none 0 0] 26); simpa using h
  have ze : w.heap.size + 1 ≤ (w.alloc (.cells #[.bool false, .slice none 0 0, .slice none 0 0] 26)).heap.size := (by simp)
  go_enter Tryz.func6, Tryz.ntmps6
  go_wp2_with fail
  refine callsNamed ?_
  intro p1 hp
  have O' : Old w p1 := (by rw [hp]; exact Below.trans (b := (w.alloc (.cells #[.bool false, .slice none 0 0, .slice none 0 0] 26))) O oldB)
  replace B_r : Bx p1 (w.heap.size) #[.bool false, .slice none 0 0, .slice none 0 0] := (by rw [hp]; repeat' (first | (with_reducible exact B_r) | (with_reducible refine Bx.alloc ?_ _) | (with_reducible refine Bx.drewN ?_ _) | (with_reducible refine Bx.drew ?_) | refine Bx.far ?_ (by first | assumption | (simp <;> done) | (simp; omega) | omega) _))
  have zp1 : (w.alloc (.cells #[.bool false, .slice none 0 0, .slice none 0 0] 26)).heap.size ≤ p1.heap.size := (by rw [hp]; exact leA)
  clear hp O
  have O := O'
  clear O'
  refine (cut_yes s 47 i _ b HI.out hi).mono ?_
  rintro e w1 ⟨rfl, o1⟩
  replace B_r := Bx.old B_r o1
  replace O := Old.trans O o1
  have zw1 := o1.size
  rw [E0.out, E1.out]
  have q_r_0 := B_r.cell 0 rfl
  have q_r_1 := B_r.cell 1 rfl
  have q_r_2 := B_r.cell 2 rfl
  have f_r_0 := B_r.frozen 0
  have f_r_1 := B_r.frozen 1
  have f_r_2 := B_r.frozen 2
  have q_r := B_r.lt
  go_wp2_with fail
  refine callsNamed ?_
  intro p2 hp
  clear q_r_0 q_r_1 q_r_2 f_r_0 f_r_1 f_r_2 q_r
  have O' : Old w p2 := (by rw [hp]; exact Below.trans (b := w1) O oldB)
  replace B_r : Bx p2 (w.heap.size) #[.bool false, .slice none 0 0, .slice none 0 0] := (by rw [hp]; repeat' (first | (with_reducible exact B_r) | (with_reducible refine Bx.alloc ?_ _) | (with_reducible refine Bx.drewN ?_ _) | (with_reducible refine Bx.drew ?_) | refine Bx.far ?_ (by first | assumption | (simp <;> done) | (simp; omega) | omega) _))
  have zp2 : w1.heap.size ≤ p2.heap.size := (by rw [hp]; exact leA)
  clear hp O
  have O := O'
  clear O'
  refine (implBig_c sA z false _ HP.out HZ.out HT.out).mono ?_
  rintro e w2 ⟨⟨A1, c1, rfl, r1⟩, o2⟩
  replace B_r := Bx.old B_r o2
  replace O := Old.trans O o2
  have zw2 := o2.size
  replace r1 := Row.more (lo' := p2.heap.size) r1 leA
  have lim_r1 := Row.lim r1
  have q_r_0 := B_r.cell 0 rfl
  have q_r_1 := B_r.cell 1 rfl
  have q_r_2 := B_r.cell 2 rfl
  have f_r_0 := B_r.frozen 0
  have f_r_1 := B_r.frozen 1
  have f_r_2 := B_r.frozen 2
  have q_r := B_r.lt
  go_wp2_with fail
  refine callsNamed ?_
  intro p3 hp
  clear q_r_0 q_r_1 q_r_2 f_r_0 f_r_1 f_r_2 q_r
  have O' : Old w p3 := (by rw [hp]; exact Below.trans (b := w2) O oldB)
  replace B_r : Bx p3 (w.heap.size) #[.bool false, .slice none 0 0, .slice none 0 0] := (by rw [hp]; repeat' (first | (with_reducible exact B_r) | (with_reducible refine Bx.alloc ?_ _) | (with_reducible refine Bx.drewN ?_ _) | (with_reducible refine Bx.drew ?_) | refine Bx.far ?_ (by first | assumption | (simp <;> done) | (simp; omega) | omega) _))
  replace r1 := Row.at r1 p3 (by rw [hp]; repeat' (first | (with_reducible exact r1) | (with_reducible refine Row.alloc' ?_ _) | (with_reducible refine Row.drewN ?_ _) | (with_reducible refine Row.drew' ?_) | refine Row.far_off ?_ (by assumption) _ | refine Row.far_set ?_ (by first | (simp <;> done) | (simp; omega) | omega) _))
  have B_n : Bx p3 (w2.heap.size) #[.bool (sgnZ z), .slice A1 (len (magZ z)) c1] := (by rw [hp]; repeat' (first | (exact Bx.newAt3 (by first | rfl | (simp <;> done))) | (exact Bx.put2 (Bx.newAt3 (by first | rfl | (simp <;> done))) _ _) | (with_reducible refine Bx.alloc ?_ _) | (with_reducible refine Bx.drewN ?_ _) | (with_reducible refine Bx.drew ?_) | refine Bx.far ?_ (by first | assumption | (simp <;> done) | (simp; omega) | omega) _))
  have lt_n := B_n.lt
  have ne_n_r : ¬ (w2.heap.size = w.heap.size) := by omega
  have en_n_r : ¬ (w.heap.size = w2.heap.size) := by omega
  have B_l : Bx p3 (w2.heap.size + 1) #[.int .i64 1] := (by rw [hp]; repeat' (first | (exact Bx.newAt3 (by first | rfl | (simp <;> done))) | (with_reducible refine Bx.alloc ?_ _) | (with_reducible refine Bx.drewN ?_ _) | (with_reducible refine Bx.drew ?_) | refine Bx.far ?_ (by first | assumption | (simp <;> done) | (simp; omega) | omega) _))
  have lt_l := B_l.lt
  have ne_l_r : ¬ (w2.heap.size + 1 = w.heap.size) := by omega
  have en_l_r : ¬ (w.heap.size = w2.heap.size + 1) := by omega
  have ne_l_n : ¬ (w2.heap.size + 1 = w2.heap.size) := by omega
  have en_l_n : ¬ (w2.heap.size = w2.heap.size + 1) := by omega
  have B_q : Bx p3 (w2.heap.size + 1 + 1) #[.bool (sgnZ z), .slice A1 (len (magZ z)) c1, .slice (some ⟨w2.heap.size + 1, 0, none⟩) (len 1) 1] := (by rw [hp, one_len]; repeat' (first | (exact Bx.newAt3 (by first | rfl | (simp <;> done))) | (exact Bx.put3 (Bx.newAt3 (by first | rfl | (simp <;> done))) _ _ _) | (with_reducible refine Bx.alloc ?_ _) | (with_reducible refine Bx.drewN ?_ _) | (with_reducible refine Bx.drew ?_) | refine Bx.far ?_ (by first | assumption | (simp <;> done) | (simp; omega) | omega) _))
  have lt_q := B_q.lt
  have ne_q_r : ¬ (w2.heap.size + 1 + 1 = w.heap.size) := by omega
  have en_q_r : ¬ (w.heap.size = w2.heap.size + 1 + 1) := by omega
  have ne_q_n : ¬ (w2.heap.size + 1 + 1 = w2.heap.size) := by omega
  have en_q_n : ¬ (w2.heap.size = w2.heap.size + 1 + 1) := by omega
  have ne_q_l : ¬ (w2.heap.size + 1 + 1 = w2.heap.size + 1) := by omega
  have en_q_l : ¬ (w2.heap.size + 1 = w2.heap.size + 1 + 1) := by omega
  have zp3 : w2.heap.size ≤ p3.heap.size := (by rw [hp]; exact leA)
  clear hp O
  have O := O'
  clear O'
  have rl := one_box B_l (lo := w2.heap.size) (by omega)
  have off_r1 : Off (w2.heap.size + 1 + 1) A1 (len (magZ z)) := Lim.off lim_r1 (by omega)
  have off_rl : Off (w2.heap.size + 1 + 1) (some (⟨w2.heap.size + 1, 0, none⟩ : Addr)) (len 1) := Off.one (by omega)
  refine (implNat_c sB d b2 _ HQ.out HD.out HU.out).mono ?_
  rintro e w3 ⟨⟨A2, c2, rfl, r2⟩, o3⟩
  replace B_r := Bx.old B_r o3
  replace B_n := Bx.old B_n o3
  replace B_l := Bx.old B_l o3
  replace B_q := Bx.old B_q o3
  replace r1 := Row.below r1 o3 (Nat.le_refl _)
  replace rl := Row.below rl o3 (Nat.le_refl _)
  replace O := Old.trans O o3
  have zw3 := o3.size
  replace r2 := Row.more (lo' := p3.heap.size) r2 leA
  have lim_r2 := Row.lim r2
  have q_r_0 := B_r.cell 0 rfl
  have q_r_1 := B_r.cell 1 rfl
  have q_r_2 := B_r.cell 2 rfl
  have f_r_0 := B_r.frozen 0
  have f_r_1 := B_r.frozen 1
  have f_r_2 := B_r.frozen 2
  have q_r := B_r.lt
  have q_n_0 := B_n.cell 0 rfl
  have q_n_1 := B_n.cell 1 rfl
  have f_n_0 := B_n.frozen 0
  have f_n_1 := B_n.frozen 1
  have q_n := B_n.lt
  have q_l_0 := B_l.cell 0 rfl
  have f_l_0 := B_l.frozen 0
  have q_l := B_l.lt
  have q_q_0 := B_q.cell 0 rfl
  have q_q_1 := B_q.cell 1 rfl
  have q_q_2 := B_q.cell 2 rfl
  have f_q_0 := B_q.frozen 0
  have f_q_1 := B_q.frozen 1
  have f_q_2 := B_q.frozen 2
  have q_q := B_q.lt
  go_upto_region 7 with fail
  refine wpNamed ?_
  intro p4 hp
  clear q_r_0 q_r_1 q_r_2 f_r_0 f_r_1 f_r_2 q_r q_n_0 q_n_1 f_n_0 f_n_1 q_n q_l_0 f_l_0 q_l q_q_0 q_q_1 q_q_2 f_q_0 f_q_1 f_q_2 q_q
  have O' : Old w p4 := (by rw [hp]; exact Below.trans (b := w3) O oldB)
  replace B_r : Bx p4 (w.heap.size) #[.bool false, .slice none 0 0, .slice none 0 0] := (by rw [hp]; repeat' (first | (with_reducible exact B_r) | (with_reducible refine Bx.alloc ?_ _) | (with_reducible refine Bx.drewN ?_ _) | (with_reducible refine Bx.drew ?_) | refine Bx.far ?_ (by first | assumption | (simp <;> done) | (simp; omega) | omega) _))
  replace B_n : Bx p4 (w2.heap.size) #[.bool (sgnZ z), .slice A1 (len (magZ z)) c1] := (by rw [hp]; repeat' (first | (with_reducible exact B_n) | (with_reducible refine Bx.alloc ?_ _) | (with_reducible refine Bx.drewN ?_ _) | (with_reducible refine Bx.drew ?_) | refine Bx.far ?_ (by first | assumption | (simp <;> done) | (simp; omega) | omega) _))
  replace B_l : Bx p4 (w2.heap.size + 1) #[.int .i64 1] := (by rw [hp]; repeat' (first | (with_reducible exact B_l) | (with_reducible refine Bx.alloc ?_ _) | (with_reducible refine Bx.drewN ?_ _) | (with_reducible refine Bx.drew ?_) | refine Bx.far ?_ (by first | assumption | (simp <;> done) | (simp; omega) | omega) _))
  replace B_q : Bx p4 (w2.heap.size + 1 + 1) #[.bool (sgnZ z), .slice A1 (len (magZ z)) c1, .slice A2 (len d) c2] := (by rw [hp]; repeat' (first | (with_reducible exact B_q) | (with_reducible refine Bx.alloc ?_ _) | (with_reducible refine Bx.drewN ?_ _) | (with_reducible refine Bx.drew ?_) | refine Bx.set (cs := #[.bool (sgnZ z), .slice A1 (len (magZ z)) c1, .slice (some ⟨w2.heap.size + 1, 0, none⟩) (len 1) 1]) ?_ 2 _ | refine Bx.far ?_ (by first | assumption | (simp <;> done) | (simp; omega) | omega) _))
  replace r1 := Row.at r1 p4 (by rw [hp]; repeat' (first | (with_reducible exact r1) | (with_reducible refine Row.alloc' ?_ _) | (with_reducible refine Row.drewN ?_ _) | (with_reducible refine Row.drew' ?_) | refine Row.far_off ?_ (by assumption) _ | refine Row.far_set ?_ (by first | (simp <;> done) | (simp; omega) | omega) _))
  replace rl := Row.at rl p4 (by rw [hp]; repeat' (first | (with_reducible exact rl) | (with_reducible refine Row.alloc' ?_ _) | (with_reducible refine Row.drewN ?_ _) | (with_reducible refine Row.drew' ?_) | refine Row.far_off ?_ (by assumption) _ | refine Row.far_set ?_ (by first | (simp <;> done) | (simp; omega) | omega) _))
  replace r2 := Row.at r2 p4 (by rw [hp]; repeat' (first | (with_reducible exact r2) | (with_reducible refine Row.alloc' ?_ _) | (with_reducible refine Row.drewN ?_ _) | (with_reducible refine Row.drew' ?_) | refine Row.far_off ?_ (by assumption) _ | refine Row.far_set ?_ (by first | (simp <;> done) | (simp; omega) | omega) _))
  have zp4 : w3.heap.size ≤ p4.heap.size := (by rw [hp]; exact leA)
  clear hp O
  have O := O'
  clear O'
  have q_r_0 := B_r.cell 0 rfl
  have q_r_1 := B_r.cell 1 rfl
  have q_r_2 := B_r.cell 2 rfl
  have f_r_0 := B_r.frozen 0
  have f_r_1 := B_r.frozen 1
  have f_r_2 := B_r.frozen 2
  have q_r := B_r.lt
  have q_n_0 := B_n.cell 0 rfl
  have q_n_1 := B_n.cell 1 rfl
  have f_n_0 := B_n.frozen 0
  have f_n_1 := B_n.frozen 1
  have q_n := B_n.lt
  have q_l_0 := B_l.cell 0 rfl
  have f_l_0 := B_l.frozen 0
  have q_l := B_l.lt
  have q_q_0 := B_q.cell 0 rfl
  have q_q_1 := B_q.cell 1 rfl
  have q_q_2 := B_q.cell 2 rfl
  have f_q_0 := B_q.frozen 0
  have f_q_1 := B_q.frozen 1
  have f_q_2 := B_q.frozen 2
  have q_q := B_q.lt
  go_wp2
  refine bodyPost_ret (v := .tuple #[.agg #[.bool false, .slice none 0 0, .slice none 0 0], .bool false]) (by simp [results, Tryz.results6, go_sem, q_r_0, q_r_1, q_r_2]) rfl ⟨RetRB.zero rfl, Below.trans (b := p4) O oldB⟩
set_option maxRecDepth 100000 in
set_option maxHeartbeats 8000000 in
theorem impl_ParseRat_cut_no2 (s : ByteArray) (z : Int) (w : World) (b : s.size ≤ 1048576) (K : KT w) (sA sB : ByteArray) (d : Nat) (b1 b2 : Bool) (i : Nat) (hidx : Lib.indexByte s.data.toList 47 = (i : Int)) (hi : i < s.size) (e0 : s.extract 0 i = sA) (e1 : s.extract (i + 1) s.size = sB) (hz : zParseBigInt sA = z) (ht : rParseBigInt1 sA = b1) (hd : rParseNat sB = d) (hu : rParseNat1 sB = b2) (k1 : b1 = true) (k2 : b2 = false) :
    Calls Tryz.prog 6 #[.string s] w fun e w' => RetRB e w' w.heap.size (0, 0) false ∧ Old w w' := by
  subst k1
  subst k2
  have hlz : len (magZ z) ≤ 60 := by rw [← hz]; exact zParseBigInt_len _
  have HZ := Lib.hid hz
  have HT := Lib.hid ht
  clear hz ht
  have hld : len d ≤ 60 := by rw [← hd]; exact rParseNat_len _
  have HD := Lib.hid hd
  have HU := Lib.hid hu
  clear hd hu
  have HI := Lib.hid hidx
  clear hidx
  have HP : Hid (sA.size ≤ maxLen) := Lib.hid (by rw [← e0, ByteArray.size_extract]; unfold maxLen; omega)
  have HQ : Hid (sB.size ≤ maxLen) := Lib.hid (by rw [← e1, ByteArray.size_extract]; unfold maxLen; omega)
  have E0 := Lib.hid e0
  have E1 := Lib.hid e1
  clear e0 e1
  have O : Old w (w.alloc (.cells #[.bool false, .slice none 0 0, .slice none 0 0] 26)) := oldB
  have B_r : Bx (w.alloc (.cells #[.bool false, .slice none 0 0, .slice none 0 0] 26)) (w.heap.size) #[.bool false, .slice none 0 0, .slice none 0 0] := by have h := (Bx.new w #[.bool false, .slice none 0 0, .slice none 0 0] 26); simpa using h
  have ze : w.heap.size + 1 ≤ (w.alloc (.cells #[.bool false, .slice none 0 0, .slice none 0 0] 26)).heap.size := (by simp)
  go_enter Tryz.func6, Tryz.ntmps6
  go_wp2_with fail
  refine callsNamed ?_
  intro p1 hp
  have O' : Old w p1 := (by rw [hp]; exact Below.trans (b := (w.alloc (.cells #[.bool false, .slice none 0 0, .slice none 0 0] 26))) O oldB)
  replace B_r : Bx p1 (w.heap.size) #[.bool false, .slice none 0 0, .slice none 0 0] := (by rw [hp]; repeat' (first | (with_reducible exact B_r) | (with_reducible refine Bx.alloc ?_ _) | (with_reducible refine Bx.drewN ?_ _) | (with_reducible refine Bx.drew ?_) | refine Bx.far ?_ (by first | assumption | (simp <;> done) | (simp; omega) | omega) _))
  have zp1 : (w.alloc (.cells #[.bool false, .slice none 0 0, .slice none 0 0] 26)).heap.size ≤ p1.heap.size := (by rw [hp]; exact leA)
  clear hp O
  have O := O'
  clear O'
  refine (cut_yes s 47 i _ b HI.out hi).mono ?_
  rintro e w1 ⟨rfl, o1⟩
  replace B_r := Bx.old B_r o1
  replace O := Old.trans O o1
  have zw1 := o1.size
  rw [E0.out, E1.out]
  have q_r_0 := B_r.cell 0 rfl
  have q_r_1 := B_r.cell 1 rfl
  have q_r_2 := B_r.cell 2 rfl
  have f_r_0 := B_r.frozen 0
  have f_r_1 := B_r.frozen 1
  have f_r_2 := B_r.frozen 2
  have q_r := B_r.lt
  go_wp2_with fail
  refine callsNamed ?_
  intro p2 hp
  clear q_r_0 q_r_1 q_r_2 f_r_0 f_r_1 f_r_2 q_r
  have O' : Old w p2 := (by rw [hp]; exact Below.trans (b := w1) O oldB)
  replace B_r : Bx p2 (w.heap.size) #[.bool false, .slice none 0 0, .slice none 0 0] := (by rw [hp]; repeat' (first | (with_reducible exact B_r) | (with_reducible refine Bx.alloc ?_ _) | (with_reducible refine Bx.drewN ?_ _) | (with_reducible refine Bx.drew ?_) | refine Bx.far ?_ (by first | assumption | (simp <;> done) | (simp; omega) | omega) _))
  have zp2 : w1.heap.size ≤ p2.heap.size := (by rw [hp]; exact leA)
  clear hp O
  have O := O'
  clear O'
  refine (implBig_c sA z true _ HP.out HZ.out HT.out).mono ?_
  rintro e w2 ⟨⟨A1, c1, rfl, r1⟩, o2⟩
  replace B_r := Bx.old B_r o2
  replace O := Old.trans O o2
  have zw2 := o2.size
  replace r1 := Row.more (lo' := p2.heap.size) r1 leA
  have lim_r1 := Row.lim r1
  have q_r_0 := B_r.cell 0 rfl
  have q_r_1 := B_r.cell 1 rfl
  have q_r_2 := B_r.cell 2 rfl
  have f_r_0 := B_r.frozen 0
  have f_r_1 := B_r.frozen 1
  have f_r_2 := B_r.frozen 2
  have q_r := B_r.lt
  go_wp2_with fail
  refine callsNamed ?_
  intro p3 hp
  clear q_r_0 q_r_1 q_r_2 f_r_0 f_r_1 f_r_2 q_r
  have O' : Old w p3 := (by rw [hp]; exact Below.trans (b := w2) O oldB)
  replace B_r : Bx p3 (w.heap.size) #[.bool false, .slice none 0 0, .slice none 0 0] := (by rw [hp]; repeat' (first | (with_reducible exact B_r) | (with_reducible refine Bx.alloc ?_ _) | (with_reducible refine Bx.drewN ?_ _) | (with_reducible refine Bx.drew ?_) | refine Bx.far ?_ (by first | assumption | (simp <;> done) | (simp; omega) | omega) _))
  replace r1 := Row.at r1 p3 (by rw [hp]; repeat' (first | (with_reducible exact r1) | (with_reducible refine Row.alloc' ?_ _) | (with_reducible refine Row.drewN ?_ _) | (with_reducible refine Row.drew' ?_) | refine Row.far_off ?_ (by assumption) _ | refine Row.far_set ?_ (by first | (simp <;> done) | (simp; omega) | omega) _))
  have B_n : Bx p3 (w2.heap.size) #[.bool (sgnZ z), .slice A1 (len (magZ z)) c1] := (by rw [hp]; repeat' (first | (exact Bx.newAt3 (by first | rfl | (simp <;> done))) | (exact Bx.put2 (Bx.newAt3 (by first | rfl | (simp <;> done))) _ _) | (with_reducible refine Bx.alloc ?_ _) | (with_reducible refine Bx.drewN ?_ _) | (with_reducible refine Bx.drew ?_) | refine Bx.far ?_ (by first | assumption | (simp <;> done) | (simp; omega) | omega) _))
  have lt_n := B_n.lt
  have ne_n_r : ¬ (w2.heap.size = w.heap.size) := by omega
  have en_n_r : ¬ (w.heap.size = w2.heap.size) := by omega
  have B_l : Bx p3 (w2.heap.size + 1) #[.int .i64 1] := (by rw [hp]; repeat' (first | (exact Bx.newAt3 (by first | rfl | (simp <;> done))) | (with_reducible refine Bx.alloc ?_ _) | (with_reducible refine Bx.drewN ?_ _) | (with_reducible refine Bx.drew ?_) | refine Bx.far ?_ (by first | assumption | (simp <;> done) | (simp; omega) | omega) _))
  have lt_l := B_l.lt
  have ne_l_r : ¬ (w2.heap.size + 1 = w.heap.size) := by omega
  have en_l_r : ¬ (w.heap.size = w2.heap.size + 1) := by omega
  have ne_l_n : ¬ (w2.heap.size + 1 = w2.heap.size) := by omega
  have en_l_n : ¬ (w2.heap.size = w2.heap.size + 1) := by omega
  have B_q : Bx p3 (w2.heap.size + 1 + 1) #[.bool (sgnZ z), .slice A1 (len (magZ z)) c1, .slice (some ⟨w2.heap.size + 1, 0, none⟩) (len 1) 1] := (by rw [hp, one_len]; repeat' (first | (exact Bx.newAt3 (by first | rfl | (simp <;> done))) | (exact Bx.put3 (Bx.newAt3 (by first | rfl | (simp <;> done))) _ _ _) | (with_reducible refine Bx.alloc ?_ _) | (with_reducible refine Bx.drewN ?_ _) | (with_reducible refine Bx.drew ?_) | refine Bx.far ?_ (by first | assumption | (simp <;> done) | (simp; omega) | omega) _))
  have lt_q := B_q.lt
  have ne_q_r : ¬ (w2.heap.size + 1 + 1 = w.heap.size) := by omega
  have en_q_r : ¬ (w.heap.size = w2.heap.size + 1 + 1) := by omega
  have ne_q_n : ¬ (w2.heap.size + 1 + 1 = w2.heap.size) := by omega
  have en_q_n : ¬ (w2.heap.size = w2.heap.size + 1 + 1) := by omega
  have ne_q_l : ¬ (w2.heap.size + 1 + 1 = w2.heap.size + 1) := by omega
  have en_q_l : ¬ (w2.heap.size + 1 = w2.heap.size + 1 + 1) := by omega
  have zp3 : w2.heap.size ≤ p3.heap.size := (by rw [hp]; exact leA)
  clear hp O
  have O := O'
  clear O'
  have rl := one_box B_l (lo := w2.heap.size) (by omega)
  have off_r1 : Off (w2.heap.size + 1 + 1) A1 (len (magZ z)) := Lim.off lim_r1 (by omega)
  have off_rl : Off (w2.heap.size + 1 + 1) (some (⟨w2.heap.size + 1, 0, none⟩ : Addr)) (len 1) := Off.one (by omega)
  refine (implNat_c sB d false _ HQ.out HD.out HU.out).mono ?_
  rintro e w3 ⟨⟨A2, c2, rfl, r2⟩, o3⟩
  replace B_r := Bx.old B_r o3
  replace B_n := Bx.old B_n o3
  replace B_l := Bx.old B_l o3
  replace B_q := Bx.old B_q o3
  replace r1 := Row.below r1 o3 (Nat.le_refl _)
  replace rl := Row.below rl o3 (Nat.le_refl _)
  replace O := Old.trans O o3
  have zw3 := o3.size
  replace r2 := Row.more (lo' := p3.heap.size) r2 leA
  have lim_r2 := Row.lim r2
  have q_r_0 := B_r.cell 0 rfl
  have q_r_1 := B_r.cell 1 rfl
  have q_r_2 := B_r.cell 2 rfl
  have f_r_0 := B_r.frozen 0
  have f_r_1 := B_r.frozen 1
  have f_r_2 := B_r.frozen 2
  have q_r := B_r.lt
  have q_n_0 := B_n.cell 0 rfl
  have q_n_1 := B_n.cell 1 rfl
  have f_n_0 := B_n.frozen 0
  have f_n_1 := B_n.frozen 1
  have q_n := B_n.lt
  have q_l_0 := B_l.cell 0 rfl
  have f_l_0 := B_l.frozen 0
  have q_l := B_l.lt
  have q_q_0 := B_q.cell 0 rfl
  have q_q_1 := B_q.cell 1 rfl
  have q_q_2 := B_q.cell 2 rfl
  have f_q_0 := B_q.frozen 0
  have f_q_1 := B_q.frozen 1
  have f_q_2 := B_q.frozen 2
  have q_q := B_q.lt
  go_upto_region 7 with fail
  refine wpNamed ?_
  intro p4 hp
  clear q_r_0 q_r_1 q_r_2 f_r_0 f_r_1 f_r_2 q_r q_n_0 q_n_1 f_n_0 f_n_1 q_n q_l_0 f_l_0 q_l q_q_0 q_q_1 q_q_2 f_q_0 f_q_1 f_q_2 q_q
  have O' : Old w p4 := (by rw [hp]; exact Below.trans (b := w3) O oldB)
  replace B_r : Bx p4 (w.heap.size) #[.bool false, .slice none 0 0, .slice none 0 0] := (by rw [hp]; repeat' (first | (with_reducible exact B_r) | (with_reducible refine Bx.alloc ?_ _) | (with_reducible refine Bx.drewN ?_ _) | (with_reducible refine Bx.drew ?_) | refine Bx.far ?_ (by first | assumption | (simp <;> done) | (simp; omega) | omega) _))
  replace B_n : Bx p4 (w2.heap.size) #[.bool (sgnZ z), .slice A1 (len (magZ z)) c1] := (by rw [hp]; repeat' (first | (with_reducible exact B_n) | (with_reducible refine Bx.alloc ?_ _) | (with_reducible refine Bx.drewN ?_ _) | (with_reducible refine Bx.drew ?_) | refine Bx.far ?_ (by first | assumption | (simp <;> done) | (simp; omega) | omega) _))
  replace B_l : Bx p4 (w2.heap.size + 1) #[.int .i64 1] := (by rw [hp]; repeat' (first | (with_reducible exact B_l) | (with_reducible refine Bx.alloc ?_ _) | (with_reducible refine Bx.drewN ?_ _) | (with_reducible refine Bx.drew ?_) | refine Bx.far ?_ (by first | assumption | (simp <;> done) | (simp; omega) | omega) _))
  replace B_q : Bx p4 (w2.heap.size + 1 + 1) #[.bool (sgnZ z), .slice A1 (len (magZ z)) c1, .slice A2 (len d) c2] := (by rw [hp]; repeat' (first | (with_reducible exact B_q) | (with_reducible refine Bx.alloc ?_ _) | (with_reducible refine Bx.drewN ?_ _) | (with_reducible refine Bx.drew ?_) | refine Bx.set (cs := #[.bool (sgnZ z), .slice A1 (len (magZ z)) c1, .slice (some ⟨w2.heap.size + 1, 0, none⟩) (len 1) 1]) ?_ 2 _ | refine Bx.far ?_ (by first | assumption | (simp <;> done) | (simp; omega) | omega) _))
  replace r1 := Row.at r1 p4 (by rw [hp]; repeat' (first | (with_reducible exact r1) | (with_reducible refine Row.alloc' ?_ _) | (with_reducible refine Row.drewN ?_ _) | (with_reducible refine Row.drew' ?_) | refine Row.far_off ?_ (by assumption) _ | refine Row.far_set ?_ (by first | (simp <;> done) | (simp; omega) | omega) _))
  replace rl := Row.at rl p4 (by rw [hp]; repeat' (first | (with_reducible exact rl) | (with_reducible refine Row.alloc' ?_ _) | (with_reducible refine Row.drewN ?_ _) | (with_reducible refine Row.drew' ?_) | refine Row.far_off ?_ (by assumption) _ | refine Row.far_set ?_ (by first | (simp <;> done) | (simp; omega) | omega) _))
  replace r2 := Row.at r2 p4 (by rw [hp]; repeat' (first | (with_reducible exact r2) | (with_reducible refine Row.alloc' ?_ _) | (with_reducible refine Row.drewN ?_ _) | (with_reducible refine Row.drew' ?_) | refine Row.far_off ?_ (by assumption) _ | refine Row.far_set ?_ (by first | (simp <;> done) | (simp; omega) | omega) _))
  have zp4 : w3.heap.size ≤ p4.heap.size := (by rw [hp]; exact leA)
  clear hp O
  have O := O'
  clear O'
  have q_r_0 := B_r.cell 0 rfl
  have q_r_1 := B_r.cell 1 rfl
  have q_r_2 := B_r.cell 2 rfl
  have f_r_0 := B_r.frozen 0
  have f_r_1 := B_r.frozen 1
  have f_r_2 := B_r.frozen 2
  have q_r := B_r.lt
  have q_n_0 := B_n.cell 0 rfl
  have q_n_1 := B_n.cell 1 rfl
  have f_n_0 := B_n.frozen 0
  have f_n_1 := B_n.frozen 1
  have q_n := B_n.lt
  have q_l_0 := B_l.cell 0 rfl
  have f_l_0 := B_l.frozen 0
  have q_l := B_l.lt
  have q_q_0 := B_q.cell 0 rfl
  have q_q_1 := B_q.cell 1 rfl
  have q_q_2 := B_q.cell 2 rfl
  have f_q_0 := B_q.frozen 0
  have f_q_1 := B_q.frozen 1
  have f_q_2 := B_q.frozen 2
  have q_q := B_q.lt
  go_wp2
  refine bodyPost_ret (v := .tuple #[.agg #[.bool false, .slice none 0 0, .slice none 0 0], .bool false]) (by simp [results, Tryz.results6, go_sem, q_r_0, q_r_1, q_r_2]) rfl ⟨RetRB.zero rfl, Below.trans (b := p4) O oldB⟩
set_option maxRecDepth 100000 in
set_option maxHeartbeats 8000000 in
theorem impl_ParseRat_cut_no3 (s : ByteArray) (z : Int) (w : World) (b : s.size ≤ 1048576) (K : KT w) (sA sB : ByteArray) (d : Nat) (b1 b2 : Bool) (i : Nat) (hidx : Lib.indexByte s.data.toList 47 = (i : Int)) (hi : i < s.size) (e0 : s.extract 0 i = sA) (e1 : s.extract (i + 1) s.size = sB) (hz : zParseBigInt sA = z) (ht : rParseBigInt1 sA = b1) (hd : rParseNat sB = d) (hu : rParseNat1 sB = b2) (k1 : b1 = true) (k2 : b2 = true) (k3 : ¬ okR (sgnZ z) (len (magZ z)) (digI (magZ z)) (len d) (digI d)) :
    Calls Tryz.prog 6 #[.string s] w fun e w' => RetRB e w' w.heap.size (0, 0) false ∧ Old w w' := by
  subst k1
  subst k2
  have hlz : len (magZ z) ≤ 60 := by rw [← hz]; exact zParseBigInt_len _
  have HZ := Lib.hid hz
  have HT := Lib.hid ht
  clear hz ht
  have hld : len d ≤ 60 := by rw [← hd]; exact rParseNat_len _
  have HD := Lib.hid hd
  have HU := Lib.hid hu
  clear hd hu
  have HI := Lib.hid hidx
  clear hidx
  have HP : Hid (sA.size ≤ maxLen) := Lib.hid (by rw [← e0, ByteArray.size_extract]; unfold maxLen; omega)
  have HQ : Hid (sB.size ≤ maxLen) := Lib.hid (by rw [← e1, ByteArray.size_extract]; unfold maxLen; omega)
  have E0 := Lib.hid e0
  have E1 := Lib.hid e1
  clear e0 e1
  have K3 := Lib.hid k3
  clear k3
  have O : Old w (w.alloc (.cells #[.bool false, .slice none 0 0, .slice none 0 0] 26)) := oldB
  have B_r : Bx (w.alloc (.cells #[.bool false, .slice none 0 0, .slice none 0 0] 26)) (w.heap.size) #[.bool false, .slice none 0 0, .slice none 0 0] := by have h := (Bx.new w #[.bool false, .slice none 0 0, .slice none 0 0] 26); simpa using h
  have ze : w.heap.size + 1 ≤ (w.alloc (.cells #[.bool false, .slice none 0 0, .slice none 0 0] 26)).heap.size := (by simp)
  go_enter Tryz.func6, Tryz.ntmps6
  go_wp2_with fail
  refine callsNamed ?_
  intro p1 hp
  have O' : Old w p1 := (by rw [hp]; exact Below.trans (b := (w.alloc (.cells #[.bool false, .slice none 0 0, .slice none 0 0] 26))) O oldB)
  replace B_r : Bx p1 (w.heap.size) #[.bool false, .slice none 0 0, .slice none 0 0] := (by rw [hp]; repeat' (first | (with_reducible exact B_r) | (with_reducible refine Bx.alloc ?_ _) | (with_reducible refine Bx.drewN ?_ _) | (with_reducible refine Bx.drew ?_) | refine Bx.far ?_ (by first | assumption | (simp <;> done) | (simp; omega) | omega) _))
  have zp1 : (w.alloc (.cells #[.bool false, .slice none 0 0, .slice none 0 0] 26)).heap.size ≤ p1.heap.size := (by rw [hp]; exact leA)
  clear hp O
  have O := O'
  clear O'
  refine (cut_yes s 47 i _ b HI.out hi).mono ?_
  rintro e w1 ⟨rfl, o1⟩
  replace B_r := Bx.old B_r o1
  replace O := Old.trans O o1
  have zw1 := o1.size
  rw [E0.out, E1.out]
  have q_r_0 := B_r.cell 0 rfl
  have q_r_1 := B_r.cell 1 rfl
  have q_r_2 := B_r.cell 2 rfl
  have f_r_0 := B_r.frozen 0
  have f_r_1 := B_r.frozen 1
  have f_r_2 := B_r.frozen 2
  have q_r := B_r.lt
  go_wp2_with fail
  refine callsNamed ?_
  intro p2 hp
  clear q_r_0 q_r_1 q_r_2 f_r_0 f_r_1 f_r_2 q_r
  have O' : Old w p2 := (by rw [hp]; exact Below.trans (b := w1) O oldB)
  replace B_r : Bx p2 (w.heap.size) #[.bool false, .slice none 0 0, .slice none 0 0] := (by rw [hp]; repeat' (first | (with_reducible exact B_r) | (with_reducible refine Bx.alloc ?_ _) | (with_reducible refine Bx.drewN ?_ _) | (with_reducible refine Bx.drew ?_) | refine Bx.far ?_ (by first | assumption | (simp <;> done) | (simp; omega) | omega) _))
  have zp2 : w1.heap.size ≤ p2.heap.size := (by rw [hp]; exact leA)
  clear hp O
  have O := O'
  clear O'
  refine (implBig_c sA z true _ HP.out HZ.out HT.out).mono ?_
  rintro e w2 ⟨⟨A1, c1, rfl, r1⟩, o2⟩
  replace B_r := Bx.old B_r o2
  replace O := Old.trans O o2
  have zw2 := o2.size
  replace r1 := Row.more (lo' := p2.heap.size) r1 leA
  have lim_r1 := Row.lim r1
  have q_r_0 := B_r.cell 0 rfl
  have q_r_1 := B_r.cell 1 rfl
  have q_r_2 := B_r.cell 2 rfl
  have f_r_0 := B_r.frozen 0
  have f_r_1 := B_r.frozen 1
  have f_r_2 := B_r.frozen 2
  have q_r := B_r.lt
  go_wp2_with fail
  refine callsNamed ?_
  intro p3 hp
  clear q_r_0 q_r_1 q_r_2 f_r_0 f_r_1 f_r_2 q_r
  have O' : Old w p3 := (by rw [hp]; exact Below.trans (b := w2) O oldB)
  replace B_r : Bx p3 (w.heap.size) #[.bool false, .slice none 0 0, .slice none 0 0] := (by rw [hp]; repeat' (first | (with_reducible exact B_r) | (with_reducible refine Bx.alloc ?_ _) | (with_reducible refine Bx.drewN ?_ _) | (with_reducible refine Bx.drew ?_) | refine Bx.far ?_ (by first | assumption | (simp <;> done) | (simp; omega) | omega) _))
  replace r1 := Row.at r1 p3 (by rw [hp]; repeat' (first | (with_reducible exact r1) | (with_reducible refine Row.alloc' ?_ _) | (with_reducible refine Row.drewN ?_ _) | (with_reducible refine Row.drew' ?_) | refine Row.far_off ?_ (by assumption) _ | refine Row.far_set ?_ (by first | (simp <;> done) | (simp; omega) | omega) _))
  have B_n : Bx p3 (w2.heap.size) #[.bool (sgnZ z), .slice A1 (len (magZ z)) c1] := (by rw [hp]; repeat' (first | (exact Bx.newAt3 (by first | rfl | (simp <;> done))) | (exact Bx.put2 (Bx.newAt3 (by first | rfl | (simp <;> done))) _ _) | (with_reducible refine Bx.alloc ?_ _) | (with_reducible refine Bx.drewN ?_ _) | (with_reducible refine Bx.drew ?_) | refine Bx.far ?_ (by first | assumption | (simp <;> done) | (simp; omega) | omega) _))
  have lt_n := B_n.lt
  have ne_n_r : ¬ (w2.heap.size = w.heap.size) := by omega
  have en_n_r : ¬ (w.heap.size = w2.heap.size) := by omega
  have B_l : Bx p3 (w2.heap.size + 1) #[.int .i64 1] := (by rw [hp]; repeat' (first | (exact Bx.newAt3 (by first | rfl | (simp <;> done))) | (with_reducible refine Bx.alloc ?_ _) | (with_reducible refine Bx.drewN ?_ _) | (with_reducible refine Bx.drew ?_) | refine Bx.far ?_ (by first | assumption | (simp <;> done) | (simp; omega) | omega) _))
  have lt_l := B_l.lt
  have ne_l_r : ¬ (w2.heap.size + 1 = w.heap.size) := by omega
  have en_l_r : ¬ (w.heap.size = w2.heap.size + 1) := by omega
  have ne_l_n : ¬ (w2.heap.size + 1 = w2.heap.size) := by omega
  have en_l_n : ¬ (w2.heap.size = w2.heap.size + 1) := by omega
  have B_q : Bx p3 (w2.heap.size + 1 + 1) #[.bool (sgnZ z), .slice A1 (len (magZ z)) c1, .slice (some ⟨w2.heap.size + 1, 0, none⟩) (len 1) 1] := (by rw [hp, one_len]; repeat' (first | (exact Bx.newAt3 (by first | rfl | (simp <;> done))) | (exact Bx.put3 (Bx.newAt3 (by first | rfl | (simp <;> done))) _ _ _) | (with_reducible refine Bx.alloc ?_ _) | (with_reducible refine Bx.drewN ?_ _) | (with_reducible refine Bx.drew ?_) | refine Bx.far ?_ (by first | assumption | (simp <;> done) | (simp; omega) | omega) _))
  have lt_q := B_q.lt
  have ne_q_r : ¬ (w2.heap.size + 1 + 1 = w.heap.size) := by omega
  have en_q_r : ¬ (w.heap.size = w2.heap.size + 1 + 1) := by omega
  have ne_q_n : ¬ (w2.heap.size + 1 + 1 = w2.heap.size) := by omega
  have en_q_n : ¬ (w2.heap.size = w2.heap.size + 1 + 1) := by omega
  have ne_q_l : ¬ (w2.heap.size + 1 + 1 = w2.heap.size + 1) := by omega
  have en_q_l : ¬ (w2.heap.size + 1 = w2.heap.size + 1 + 1) := by omega
  have zp3 : w2.heap.size ≤ p3.heap.size := (by rw [hp]; exact leA)
  clear hp O
  have O := O'
  clear O'
  have rl := one_box B_l (lo := w2.heap.size) (by omega)
  have off_r1 : Off (w2.heap.size + 1 + 1) A1 (len (magZ z)) := Lim.off lim_r1 (by omega)
  have off_rl : Off (w2.heap.size + 1 + 1) (some (⟨w2.heap.size + 1, 0, none⟩ : Addr)) (len 1) := Off.one (by omega)
  refine (implNat_c sB d true _ HQ.out HD.out HU.out).mono ?_
  rintro e w3 ⟨⟨A2, c2, rfl, r2⟩, o3⟩
  replace B_r := Bx.old B_r o3
  replace B_n := Bx.old B_n o3
  replace B_l := Bx.old B_l o3
  replace B_q := Bx.old B_q o3
  replace r1 := Row.below r1 o3 (Nat.le_refl _)
  replace rl := Row.below rl o3 (Nat.le_refl _)
  replace O := Old.trans O o3
  have zw3 := o3.size
  replace r2 := Row.more (lo' := p3.heap.size) r2 leA
  have lim_r2 := Row.lim r2
  have q_r_0 := B_r.cell 0 rfl
  have q_r_1 := B_r.cell 1 rfl
  have q_r_2 := B_r.cell 2 rfl
  have f_r_0 := B_r.frozen 0
  have f_r_1 := B_r.frozen 1
  have f_r_2 := B_r.frozen 2
  have q_r := B_r.lt
  have q_n_0 := B_n.cell 0 rfl
  have q_n_1 := B_n.cell 1 rfl
  have f_n_0 := B_n.frozen 0
  have f_n_1 := B_n.frozen 1
  have q_n := B_n.lt
  have q_l_0 := B_l.cell 0 rfl
  have f_l_0 := B_l.frozen 0
  have q_l := B_l.lt
  have q_q_0 := B_q.cell 0 rfl
  have q_q_1 := B_q.cell 1 rfl
  have q_q_2 := B_q.cell 2 rfl
  have f_q_0 := B_q.frozen 0
  have f_q_1 := B_q.frozen 1
  have f_q_2 := B_q.frozen 2
  have q_q := B_q.lt
  go_wp2_with fail
  refine callsNamed ?_
  intro p4 hp
  clear q_r_0 q_r_1 q_r_2 f_r_0 f_r_1 f_r_2 q_r q_n_0 q_n_1 f_n_0 f_n_1 q_n q_l_0 f_l_0 q_l q_q_0 q_q_1 q_q_2 f_q_0 f_q_1 f_q_2 q_q
  have O' : Old w p4 := (by rw [hp]; exact Below.trans (b := w3) O oldB)
  replace B_r : Bx p4 (w.heap.size) #[.bool false, .slice none 0 0, .slice none 0 0] := (by rw [hp]; repeat' (first | (with_reducible exact B_r) | (with_reducible refine Bx.alloc ?_ _) | (with_reducible refine Bx.drewN ?_ _) | (with_reducible refine Bx.drew ?_) | refine Bx.far ?_ (by first | assumption | (simp <;> done) | (simp; omega) | omega) _))
  replace B_n : Bx p4 (w2.heap.size) #[.bool (sgnZ z), .slice A1 (len (magZ z)) c1] := (by rw [hp]; repeat' (first | (with_reducible exact B_n) | (with_reducible refine Bx.alloc ?_ _) | (with_reducible refine Bx.drewN ?_ _) | (with_reducible refine Bx.drew ?_) | refine Bx.far ?_ (by first | assumption | (simp <;> done) | (simp; omega) | omega) _))
  replace B_l : Bx p4 (w2.heap.size + 1) #[.int .i64 1] := (by rw [hp]; repeat' (first | (with_reducible exact B_l) | (with_reducible refine Bx.alloc ?_ _) | (with_reducible refine Bx.drewN ?_ _) | (with_reducible refine Bx.drew ?_) | refine Bx.far ?_ (by first | assumption | (simp <;> done) | (simp; omega) | omega) _))
  replace B_q : Bx p4 (w2.heap.size + 1 + 1) #[.bool (sgnZ z), .slice A1 (len (magZ z)) c1, .slice A2 (len d) c2] := (by rw [hp]; repeat' (first | (with_reducible exact B_q) | (with_reducible refine Bx.alloc ?_ _) | (with_reducible refine Bx.drewN ?_ _) | (with_reducible refine Bx.drew ?_) | refine Bx.set (cs := #[.bool (sgnZ z), .slice A1 (len (magZ z)) c1, .slice (some ⟨w2.heap.size + 1, 0, none⟩) (len 1) 1]) ?_ 2 _ | refine Bx.far ?_ (by first | assumption | (simp <;> done) | (simp; omega) | omega) _))
  replace r1 := Row.at r1 p4 (by rw [hp]; repeat' (first | (with_reducible exact r1) | (with_reducible refine Row.alloc' ?_ _) | (with_reducible refine Row.drewN ?_ _) | (with_reducible refine Row.drew' ?_) | refine Row.far_off ?_ (by assumption) _ | refine Row.far_set ?_ (by first | (simp <;> done) | (simp; omega) | omega) _))
  replace rl := Row.at rl p4 (by rw [hp]; repeat' (first | (with_reducible exact rl) | (with_reducible refine Row.alloc' ?_ _) | (with_reducible refine Row.drewN ?_ _) | (with_reducible refine Row.drew' ?_) | refine Row.far_off ?_ (by assumption) _ | refine Row.far_set ?_ (by first | (simp <;> done) | (simp; omega) | omega) _))
  replace r2 := Row.at r2 p4 (by rw [hp]; repeat' (first | (with_reducible exact r2) | (with_reducible refine Row.alloc' ?_ _) | (with_reducible refine Row.drewN ?_ _) | (with_reducible refine Row.drew' ?_) | refine Row.far_off ?_ (by assumption) _ | refine Row.far_set ?_ (by first | (simp <;> done) | (simp; omega) | omega) _))
  have zp4 : w3.heap.size ≤ p4.heap.size := (by rw [hp]; exact leA)
  clear hp O
  have O := O'
  clear O'
  refine (plain_to (by rw [rRatOk_no K3.out]) (impl_RatOk (sgnZ z) A1 (len (magZ z)) c1 _ (digI (magZ z)) A2 (len d) c2 _ (digI d) _ r1 r2 (by omega) (by omega))).mono ?_
  rintro e w4 ⟨rfl, o4⟩
  replace B_r := Bx.old B_r o4
  replace B_n := Bx.old B_n o4
  replace B_l := Bx.old B_l o4
  replace B_q := Bx.old B_q o4
  replace r1 := Row.below r1 o4 (Nat.le_refl _)
  replace rl := Row.below rl o4 (Nat.le_refl _)
  replace r2 := Row.below r2 o4 (Nat.le_refl _)
  replace O := Old.trans O o4
  have zw4 := o4.size
  have q_r_0 := B_r.cell 0 rfl
  have q_r_1 := B_r.cell 1 rfl
  have q_r_2 := B_r.cell 2 rfl
  have f_r_0 := B_r.frozen 0
  have f_r_1 := B_r.frozen 1
  have f_r_2 := B_r.frozen 2
  have q_r := B_r.lt
  have q_n_0 := B_n.cell 0 rfl
  have q_n_1 := B_n.cell 1 rfl
  have f_n_0 := B_n.frozen 0
  have f_n_1 := B_n.frozen 1
  have q_n := B_n.lt
  have q_l_0 := B_l.cell 0 rfl
  have f_l_0 := B_l.frozen 0
  have q_l := B_l.lt
  have q_q_0 := B_q.cell 0 rfl
  have q_q_1 := B_q.cell 1 rfl
  have q_q_2 := B_q.cell 2 rfl
  have f_q_0 := B_q.frozen 0
  have f_q_1 := B_q.frozen 1
  have f_q_2 := B_q.frozen 2
  have q_q := B_q.lt
  go_wp2
  refine bodyPost_ret (v := .tuple #[.agg #[.bool false, .slice none 0 0, .slice none 0 0], .bool false]) (by simp [results, Tryz.results6, go_sem, q_r_0, q_r_1, q_r_2]) rfl ⟨RetRB.zero rfl, Below.trans (b := w4) O oldB⟩
set_option maxRecDepth 100000 in
set_option maxHeartbeats 8000000 in
theorem impl_ParseRat_cut_no4 (s : ByteArray) (z : Int) (w : World) (b : s.size ≤ 1048576) (K : KT w) (sA sB : ByteArray) (d : Nat) (b1 b2 : Bool) (i : Nat) (hidx : Lib.indexByte s.data.toList 47 = (i : Int)) (hi : i < s.size) (e0 : s.extract 0 i = sA) (e1 : s.extract (i + 1) s.size = sB) (hz : zParseBigInt sA = z) (ht : rParseBigInt1 sA = b1) (hd : rParseNat sB = d) (hu : rParseNat1 sB = b2) (k1 : b1 = true) (k2 : b2 = true) (k3 : okR (sgnZ z) (len (magZ z)) (digI (magZ z)) (len d) (digI d)) (k4 : ¬ txQ z d = s) :
    Calls Tryz.prog 6 #[.string s] w fun e w' => RetRB e w' w.heap.size (0, 0) false ∧ Old w w' := by
  subst k1
  subst k2
  have hlz : len (magZ z) ≤ 60 := by rw [← hz]; exact zParseBigInt_len _
  have HZ := Lib.hid hz
  have HT := Lib.hid ht
  clear hz ht
  have hld : len d ≤ 60 := by rw [← hd]; exact rParseNat_len _
  have HD := Lib.hid hd
  have HU := Lib.hid hu
  clear hd hu
  have HI := Lib.hid hidx
  clear hidx
  have HP : Hid (sA.size ≤ maxLen) := Lib.hid (by rw [← e0, ByteArray.size_extract]; unfold maxLen; omega)
  have HQ : Hid (sB.size ≤ maxLen) := Lib.hid (by rw [← e1, ByteArray.size_extract]; unfold maxLen; omega)
  have E0 := Lib.hid e0
  have E1 := Lib.hid e1
  clear e0 e1
  have K3 := Lib.hid k3
  clear k3
  have hs3 := textQ_neq k4
  clear k4
  have O : Old w (w.alloc (.cells #[.bool false, .slice none 0 0, .slice none 0 0] 26)) := oldB
  have B_r : Bx (w.alloc (.cells #[.bool false, .slice none 0 0, .slice none 0 0] 26)) (w.heap.size) #[.bool false, .slice none 0 0, .slice none 0 0] := by have h := (Bx.new w #[.bool false, .slice none 0 0, .slice none 0 0] 26); simpa using h
  have ze : w.heap.size + 1 ≤ (w.alloc (.cells #[.bool false, .slice none 0 0, .slice none 0 0] 26)).heap.size := (by simp)
  go_enter Tryz.func6, Tryz.ntmps6
  go_wp2_with fail
  refine callsNamed ?_
  intro p1 hp
  have O' : Old w p1 := (by rw [hp]; exact Below.trans (b := (w.alloc (.cells #[.bool false, .slice none 0 0, .slice none 0 0] 26))) O oldB)
  replace B_r : Bx p1 (w.heap.size) #[.bool false, .slice none 0 0, .slice none 0 0] := (by rw [hp]; repeat' (first | (with_reducible exact B_r) | (with_reducible refine Bx.alloc ?_ _) | (with_reducible refine Bx.drewN ?_ _) | (with_reducible refine Bx.drew ?_) | refine Bx.far ?_ (by first | assumption | (simp <;> done) | (simp; omega) | omega) _))
  have zp1 : (w.alloc (.cells #[.bool false, .slice none 0 0, .slice none 0 0] 26)).heap.size ≤ p1.heap.size := (by rw [hp]; exact leA)
  clear hp O
  have O := O'
  clear O'
  refine (cut_yes s 47 i _ b HI.out hi).mono ?_
  rintro e w1 ⟨rfl, o1⟩
  replace B_r := Bx.old B_r o1
  replace O := Old.trans O o1
  have zw1 := o1.size
  rw [E0.out, E1.out]
  have q_r_0 := B_r.cell 0 rfl
  have q_r_1 := B_r.cell 1 rfl
  have q_r_2 := B_r.cell 2 rfl
  have f_r_0 := B_r.frozen 0
  have f_r_1 := B_r.frozen 1
  have f_r_2 := B_r.frozen 2
  have q_r := B_r.lt
  go_wp2_with fail
  refine callsNamed ?_
  intro p2 hp
  clear q_r_0 q_r_1 q_r_2 f_r_0 f_r_1 f_r_2 q_r
  have O' : Old w p2 := (by rw [hp]; exact Below.trans (b := w1) O oldB)
  replace B_r : Bx p2 (w.heap.size) #[.bool false, .slice none 0 0, .slice none 0 0] := (by rw [hp]; repeat' (first | (with_reducible exact B_r) | (with_reducible refine Bx.alloc ?_ _) | (with_reducible refine Bx.drewN ?_ _) | (with_reducible refine Bx.drew ?_) | refine Bx.far ?_ (by first | assumption | (simp <;> done) | (simp; omega) | omega) _))
  have zp2 : w1.heap.size ≤ p2.heap.size := (by rw [hp]; exact leA)
  clear hp O
  have O := O'
  clear O'
  refine (implBig_c sA z true _ HP.out HZ.out HT.out).mono ?_
  rintro e w2 ⟨⟨A1, c1, rfl, r1⟩, o2⟩
  replace B_r := Bx.old B_r o2
  replace O := Old.trans O o2
  have zw2 := o2.size
  replace r1 := Row.more (lo' := p2.heap.size) r1 leA
  have lim_r1 := Row.lim r1
  have q_r_0 := B_r.cell 0 rfl
  have q_r_1 := B_r.cell 1 rfl
  have q_r_2 := B_r.cell 2 rfl
  have f_r_0 := B_r.frozen 0
  have f_r_1 := B_r.frozen 1
  have f_r_2 := B_r.frozen 2
  have q_r := B_r.lt
  go_wp2_with fail
  refine callsNamed ?_
  intro p3 hp
  clear q_r_0 q_r_1 q_r_2 f_r_0 f_r_1 f_r_2 q_r
  have O' : Old w p3 := (by rw [hp]; exact Below.trans (b := w2) O oldB)
  replace B_r : Bx p3 (w.heap.size) #[.bool false, .slice none 0 0, .slice none 0 0] := (by rw [hp]; repeat' (first | (with_reducible exact B_r) | (with_reducible refine Bx.alloc ?_ _) | (with_reducible refine Bx.drewN ?_ _) | (with_reducible refine Bx.drew ?_) | refine Bx.far ?_ (by first | assumption | (simp <;> done) | (simp; omega) | omega) _))
  replace r1 := Row.at r1 p3 (by rw [hp]; repeat' (first | (with_reducible exact r1) | (with_reducible refine Row.alloc' ?_ _) | (with_reducible refine Row.drewN ?_ _) | (with_reducible refine Row.drew' ?_) | refine Row.far_off ?_ (by assumption) _ | refine Row.far_set ?_ (by first | (simp <;> done) | (simp; omega) | omega) _))
  have B_n : Bx p3 (w2.heap.size) #[.bool (sgnZ z), .slice A1 (len (magZ z)) c1] := (by rw [hp]; repeat' (first | (exact Bx.newAt3 (by first | rfl | (simp <;> done))) | (exact Bx.put2 (Bx.newAt3 (by first | rfl | (simp <;> done))) _ _) | (with_reducible refine Bx.alloc ?_ _) | (with_reducible refine Bx.drewN ?_ _) | (with_reducible refine Bx.drew ?_) | refine Bx.far ?_ (by first | assumption | (simp <;> done) | (simp; omega) | omega) _))
  have lt_n := B_n.lt
  have ne_n_r : ¬ (w2.heap.size = w.heap.size) := by omega
  have en_n_r : ¬ (w.heap.size = w2.heap.size) := by omega
  have B_l : Bx p3 (w2.heap.size + 1) #[.int .i64 1] := (by rw [hp]; repeat' (first | (exact Bx.newAt3 (by first | rfl | (simp <;> done))) | (with_reducible refine Bx.alloc ?_ _) | (with_reducible refine Bx.drewN ?_ _) | (with_reducible refine Bx.drew ?_) | refine Bx.far ?_ (by first | assumption | (simp <;> done) | (simp; omega) | omega) _))
  have lt_l := B_l.lt
  have ne_l_r : ¬ (w2.heap.size + 1 = w.heap.size) := by omega
  have en_l_r : ¬ (w.heap.size = w2.heap.size + 1) := by omega
  have ne_l_n : ¬ (w2.heap.size + 1 = w2.heap.size) := by omega
  have en_l_n : ¬ (w2.heap.size = w2.heap.size + 1) := by omega
  have B_q : Bx p3 (w2.heap.size + 1 + 1) #[.bool (sgnZ z), .slice A1 (len (magZ z)) c1, .slice (some ⟨w2.heap.size + 1, 0, none⟩) (len 1) 1] := (by rw [hp, one_len]; repeat' (first | (exact Bx.newAt3 (by first | rfl | (simp <;> done))) | (exact Bx.put3 (Bx.newAt3 (by first | rfl | (simp <;> done))) _ _ _) | (with_reducible refine Bx.alloc ?_ _) | (with_reducible refine Bx.drewN ?_ _) | (with_reducible refine Bx.drew ?_) | refine Bx.far ?_ (by first | assumption | (simp <;> done) | (simp; omega) | omega) _))
  have lt_q := B_q.lt
  have ne_q_r : ¬ (w2.heap.size + 1 + 1 = w.heap.size) := by omega
  have en_q_r : ¬ (w.heap.size = w2.heap.size + 1 + 1) := by omega
  have ne_q_n : ¬ (w2.heap.size + 1 + 1 = w2.heap.size) := by omega
  have en_q_n : ¬ (w2.heap.size = w2.heap.size + 1 + 1) := by omega
  have ne_q_l : ¬ (w2.heap.size + 1 + 1 = w2.heap.size + 1) := by omega
  have en_q_l : ¬ (w2.heap.size + 1 = w2.heap.size + 1 + 1) := by omega
  have zp3 : w2.heap.size ≤ p3.heap.size := (by rw [hp]; exact leA)
  clear hp O
  have O := O'
  clear O'
  have rl := one_box B_l (lo := w2.heap.size) (by omega)
  have off_r1 : Off (w2.heap.size + 1 + 1) A1 (len (magZ z)) := Lim.off lim_r1 (by omega)
  have off_rl : Off (w2.heap.size + 1 + 1) (some (⟨w2.heap.size + 1, 0, none⟩ : Addr)) (len 1) := Off.one (by omega)
  refine (implNat_c sB d true _ HQ.out HD.out HU.out).mono ?_
  rintro e w3 ⟨⟨A2, c2, rfl, r2⟩, o3⟩
  replace B_r := Bx.old B_r o3
  replace B_n := Bx.old B_n o3
  replace B_l := Bx.old B_l o3
  replace B_q := Bx.old B_q o3
  replace r1 := Row.below r1 o3 (Nat.le_refl _)
  replace rl := Row.below rl o3 (Nat.le_refl _)
  replace O := Old.trans O o3
  have zw3 := o3.size
  replace r2 := Row.more (lo' := p3.heap.size) r2 leA
  have lim_r2 := Row.lim r2
  have q_r_0 := B_r.cell 0 rfl
  have q_r_1 := B_r.cell 1 rfl
  have q_r_2 := B_r.cell 2 rfl
  have f_r_0 := B_r.frozen 0
  have f_r_1 := B_r.frozen 1
  have f_r_2 := B_r.frozen 2
  have q_r := B_r.lt
  have q_n_0 := B_n.cell 0 rfl
  have q_n_1 := B_n.cell 1 rfl
  have f_n_0 := B_n.frozen 0
  have f_n_1 := B_n.frozen 1
  have q_n := B_n.lt
  have q_l_0 := B_l.cell 0 rfl
  have f_l_0 := B_l.frozen 0
  have q_l := B_l.lt
  have q_q_0 := B_q.cell 0 rfl
  have q_q_1 := B_q.cell 1 rfl
  have q_q_2 := B_q.cell 2 rfl
  have f_q_0 := B_q.frozen 0
  have f_q_1 := B_q.frozen 1
  have f_q_2 := B_q.frozen 2
  have q_q := B_q.lt
  go_wp2_with fail
  refine callsNamed ?_
  intro p4 hp
  clear q_r_0 q_r_1 q_r_2 f_r_0 f_r_1 f_r_2 q_r q_n_0 q_n_1 f_n_0 f_n_1 q_n q_l_0 f_l_0 q_l q_q_0 q_q_1 q_q_2 f_q_0 f_q_1 f_q_2 q_q
  have O' : Old w p4 := (by rw [hp]; exact Below.trans (b := w3) O oldB)
  replace B_r : Bx p4 (w.heap.size) #[.bool false, .slice none 0 0, .slice none 0 0] := (by rw [hp]; repeat' (first | (with_reducible exact B_r) | (with_reducible refine Bx.alloc ?_ _) | (with_reducible refine Bx.drewN ?_ _) | (with_reducible refine Bx.drew ?_) | refine Bx.far ?_ (by first | assumption | (simp <;> done) | (simp; omega) | omega) _))
  replace B_n : Bx p4 (w2.heap.size) #[.bool (sgnZ z), .slice A1 (len (magZ z)) c1] := (by rw [hp]; repeat' (first | (with_reducible exact B_n) | (with_reducible refine Bx.alloc ?_ _) | (with_reducible refine Bx.drewN ?_ _) | (with_reducible refine Bx.drew ?_) | refine Bx.far ?_ (by first | assumption | (simp <;> done) | (simp; omega) | omega) _))
  replace B_l : Bx p4 (w2.heap.size + 1) #[.int .i64 1] := (by rw [hp]; repeat' (first | (with_reducible exact B_l) | (with_reducible refine Bx.alloc ?_ _) | (with_reducible refine Bx.drewN ?_ _) | (with_reducible refine Bx.drew ?_) | refine Bx.far ?_ (by first | assumption | (simp <;> done) | (simp; omega) | omega) _))
  replace B_q : Bx p4 (w2.heap.size + 1 + 1) #[.bool (sgnZ z), .slice A1 (len (magZ z)) c1, .slice A2 (len d) c2] := (by rw [hp]; repeat' (first | (with_reducible exact B_q) | (with_reducible refine Bx.alloc ?_ _) | (with_reducible refine Bx.drewN ?_ _) | (with_reducible refine Bx.drew ?_) | refine Bx.set (cs := #[.bool (sgnZ z), .slice A1 (len (magZ z)) c1, .slice (some ⟨w2.heap.size + 1, 0, none⟩) (len 1) 1]) ?_ 2 _ | refine Bx.far ?_ (by first | assumption | (simp <;> done) | (simp; omega) | omega) _))
  replace r1 := Row.at r1 p4 (by rw [hp]; repeat' (first | (with_reducible exact r1) | (with_reducible refine Row.alloc' ?_ _) | (with_reducible refine Row.drewN ?_ _) | (with_reducible refine Row.drew' ?_) | refine Row.far_off ?_ (by assumption) _ | refine Row.far_set ?_ (by first | (simp <;> done) | (simp; omega) | omega) _))
  replace rl := Row.at rl p4 (by rw [hp]; repeat' (first | (with_reducible exact rl) | (with_reducible refine Row.alloc' ?_ _) | (with_reducible refine Row.drewN ?_ _) | (with_reducible refine Row.drew' ?_) | refine Row.far_off ?_ (by assumption) _ | refine Row.far_set ?_ (by first | (simp <;> done) | (simp; omega) | omega) _))
  replace r2 := Row.at r2 p4 (by rw [hp]; repeat' (first | (with_reducible exact r2) | (with_reducible refine Row.alloc' ?_ _) | (with_reducible refine Row.drewN ?_ _) | (with_reducible refine Row.drew' ?_) | refine Row.far_off ?_ (by assumption) _ | refine Row.far_set ?_ (by first | (simp <;> done) | (simp; omega) | omega) _))
  have zp4 : w3.heap.size ≤ p4.heap.size := (by rw [hp]; exact leA)
  clear hp O
  have O := O'
  clear O'
  refine (plain_to (by rw [rRatOk_yes K3.out]) (impl_RatOk (sgnZ z) A1 (len (magZ z)) c1 _ (digI (magZ z)) A2 (len d) c2 _ (digI d) _ r1 r2 (by omega) (by omega))).mono ?_
  rintro e w4 ⟨rfl, o4⟩
  replace B_r := Bx.old B_r o4
  replace B_n := Bx.old B_n o4
  replace B_l := Bx.old B_l o4
  replace B_q := Bx.old B_q o4
  replace r1 := Row.below r1 o4 (Nat.le_refl _)
  replace rl := Row.below rl o4 (Nat.le_refl _)
  replace r2 := Row.below r2 o4 (Nat.le_refl _)
  replace O := Old.trans O o4
  have zw4 := o4.size
  have q_r_0 := B_r.cell 0 rfl
  have q_r_1 := B_r.cell 1 rfl
  have q_r_2 := B_r.cell 2 rfl
  have f_r_0 := B_r.frozen 0
  have f_r_1 := B_r.frozen 1
  have f_r_2 := B_r.frozen 2
  have q_r := B_r.lt
  have q_n_0 := B_n.cell 0 rfl
  have q_n_1 := B_n.cell 1 rfl
  have f_n_0 := B_n.frozen 0
  have f_n_1 := B_n.frozen 1
  have q_n := B_n.lt
  have q_l_0 := B_l.cell 0 rfl
  have f_l_0 := B_l.frozen 0
  have q_l := B_l.lt
  have q_q_0 := B_q.cell 0 rfl
  have q_q_1 := B_q.cell 1 rfl
  have q_q_2 := B_q.cell 2 rfl
  have f_q_0 := B_q.frozen 0
  have f_q_1 := B_q.frozen 1
  have f_q_2 := B_q.frozen 2
  have q_q := B_q.lt
  go_wp2_with fail
  refine callsNamed ?_
  intro p5 hp
  clear q_r_0 q_r_1 q_r_2 f_r_0 f_r_1 f_r_2 q_r q_n_0 q_n_1 f_n_0 f_n_1 q_n q_l_0 f_l_0 q_l q_q_0 q_q_1 q_q_2 f_q_0 f_q_1 f_q_2 q_q
  have O' : Old w p5 := (by rw [hp]; exact Below.trans (b := w4) O oldB)
  replace B_r : Bx p5 (w.heap.size) #[.bool false, .slice none 0 0, .slice none 0 0] := (by rw [hp]; repeat' (first | (with_reducible exact B_r) | (with_reducible refine Bx.alloc ?_ _) | (with_reducible refine Bx.drewN ?_ _) | (with_reducible refine Bx.drew ?_) | refine Bx.far ?_ (by first | assumption | (simp <;> done) | (simp; omega) | omega) _))
  replace B_n : Bx p5 (w2.heap.size) #[.bool (sgnZ z), .slice A1 (len (magZ z)) c1] := (by rw [hp]; repeat' (first | (with_reducible exact B_n) | (with_reducible refine Bx.alloc ?_ _) | (with_reducible refine Bx.drewN ?_ _) | (with_reducible refine Bx.drew ?_) | refine Bx.far ?_ (by first | assumption | (simp <;> done) | (simp; omega) | omega) _))
  replace B_l : Bx p5 (w2.heap.size + 1) #[.int .i64 1] := (by rw [hp]; repeat' (first | (with_reducible exact B_l) | (with_reducible refine Bx.alloc ?_ _) | (with_reducible refine Bx.drewN ?_ _) | (with_reducible refine Bx.drew ?_) | refine Bx.far ?_ (by first | assumption | (simp <;> done) | (simp; omega) | omega) _))
  replace B_q : Bx p5 (w2.heap.size + 1 + 1) #[.bool (sgnZ z), .slice A1 (len (magZ z)) c1, .slice A2 (len d) c2] := (by rw [hp]; repeat' (first | (with_reducible exact B_q) | (with_reducible refine Bx.alloc ?_ _) | (with_reducible refine Bx.drewN ?_ _) | (with_reducible refine Bx.drew ?_) | refine Bx.far ?_ (by first | assumption | (simp <;> done) | (simp; omega) | omega) _))
  replace r1 := Row.at r1 p5 (by rw [hp]; repeat' (first | (with_reducible exact r1) | (with_reducible refine Row.alloc' ?_ _) | (with_reducible refine Row.drewN ?_ _) | (with_reducible refine Row.drew' ?_) | refine Row.far_off ?_ (by assumption) _ | refine Row.far_set ?_ (by first | (simp <;> done) | (simp; omega) | omega) _))
  replace rl := Row.at rl p5 (by rw [hp]; repeat' (first | (with_reducible exact rl) | (with_reducible refine Row.alloc' ?_ _) | (with_reducible refine Row.drewN ?_ _) | (with_reducible refine Row.drew' ?_) | refine Row.far_off ?_ (by assumption) _ | refine Row.far_set ?_ (by first | (simp <;> done) | (simp; omega) | omega) _))
  replace r2 := Row.at r2 p5 (by rw [hp]; repeat' (first | (with_reducible exact r2) | (with_reducible refine Row.alloc' ?_ _) | (with_reducible refine Row.drewN ?_ _) | (with_reducible refine Row.drew' ?_) | refine Row.far_off ?_ (by assumption) _ | refine Row.far_set ?_ (by first | (simp <;> done) | (simp; omega) | omega) _))
  have zp5 : w4.heap.size ≤ p5.heap.size := (by rw [hp]; exact leA)
  clear hp O
  have O := O'
  clear O'
  refine (formatRat_any (sgnZ z) A1 (len (magZ z)) c1 _ (digI (magZ z)) A2 (len d) c2 _ (digI d) _ r1 r2 K3.out (KT.old K O)).mono ?_
  rintro e w5 ⟨rfl, o5⟩
  replace B_r := Bx.old B_r o5
  replace B_n := Bx.old B_n o5
  replace B_l := Bx.old B_l o5
  replace B_q := Bx.old B_q o5
  replace r1 := Row.below r1 o5 (Nat.le_refl _)
  replace rl := Row.below rl o5 (Nat.le_refl _)
  replace r2 := Row.below r2 o5 (Nat.le_refl _)
  replace O := Old.trans O o5
  have zw5 := o5.size
  rw [show ratT (sgnZ z) (len (magZ z)) (digI (magZ z)) (len d) (digI d) = txQ z d from rfl]
  have q_r_0 := B_r.cell 0 rfl
  have q_r_1 := B_r.cell 1 rfl
  have q_r_2 := B_r.cell 2 rfl
  have f_r_0 := B_r.frozen 0
  have f_r_1 := B_r.frozen 1
  have f_r_2 := B_r.frozen 2
  have q_r := B_r.lt
  have q_n_0 := B_n.cell 0 rfl
  have q_n_1 := B_n.cell 1 rfl
  have f_n_0 := B_n.frozen 0
  have f_n_1 := B_n.frozen 1
  have q_n := B_n.lt
  have q_l_0 := B_l.cell 0 rfl
  have f_l_0 := B_l.frozen 0
  have q_l := B_l.lt
  have q_q_0 := B_q.cell 0 rfl
  have q_q_1 := B_q.cell 1 rfl
  have q_q_2 := B_q.cell 2 rfl
  have f_q_0 := B_q.frozen 0
  have f_q_1 := B_q.frozen 1
  have f_q_2 := B_q.frozen 2
  have q_q := B_q.lt
  go_wp2
  refine bodyPost_ret (v := .tuple #[.agg #[.bool false, .slice none 0 0, .slice none 0 0], .bool false]) (by simp [results, Tryz.results6, go_sem, q_r_0, q_r_1, q_r_2]) rfl ⟨RetRB.zero rfl, Below.trans (b := w5) O oldB⟩
set_option maxRecDepth 100000 in
set_option maxHeartbeats 8000000 in
theorem impl_ParseRat_cut_yes (s : ByteArray) (z : Int) (w : World) (b : s.size ≤ 1048576) (K : KT w) (sA sB : ByteArray) (d : Nat) (b1 b2 : Bool) (i : Nat) (hidx : Lib.indexByte s.data.toList 47 = (i : Int)) (hi : i < s.size) (e0 : s.extract 0 i = sA) (e1 : s.extract (i + 1) s.size = sB) (hz : zParseBigInt sA = z) (ht : rParseBigInt1 sA = b1) (hd : rParseNat sB = d) (hu : rParseNat1 sB = b2) (k1 : b1 = true) (k2 : b2 = true) (k3 : okR (sgnZ z) (len (magZ z)) (digI (magZ z)) (len d) (digI d)) (k4 : txQ z d = s) :
    Calls Tryz.prog 6 #[.string s] w fun e w' => RetRB e w' w.heap.size (z, d) true ∧ Old w w' := by
  subst k1
  subst k2
  have hlz : len (magZ z) ≤ 60 := by rw [← hz]; exact zParseBigInt_len _
  have HZ := Lib.hid hz
  have HT := Lib.hid ht
  clear hz ht
  have hld : len d ≤ 60 := by rw [← hd]; exact rParseNat_len _
  have HD := Lib.hid hd
  have HU := Lib.hid hu
  clear hd hu
  have HI := Lib.hid hidx
  clear hidx
  have HP : Hid (sA.size ≤ maxLen) := Lib.hid (by rw [← e0, ByteArray.size_extract]; unfold maxLen; omega)
  have HQ : Hid (sB.size ≤ maxLen) := Lib.hid (by rw [← e1, ByteArray.size_extract]; unfold maxLen; omega)
  have E0 := Lib.hid e0
  have E1 := Lib.hid e1
  clear e0 e1
  have K3 := Lib.hid k3
  clear k3
  have K4 := Lib.hid k4
  clear k4
  have O : Old w (w.alloc (.cells #[.bool false, .slice none 0 0, .slice none 0 0] 26)) := oldB
  have B_r : Bx (w.alloc (.cells #[.bool false, .slice none 0 0, .slice none 0 0] 26)) (w.heap.size) #[.bool false, .slice none 0 0, .slice none 0 0] := by have h := (Bx.new w #[.bool false, .slice none 0 0, .slice none 0 0] 26); simpa using h
  have ze : w.heap.size + 1 ≤ (w.alloc (.cells #[.bool false, .slice none 0 0, .slice none 0 0] 26)).heap.size := (by simp)
  go_enter Tryz.func6, Tryz.ntmps6
  go_wp2_with fail
  refine callsNamed ?_
  intro p1 hp
  have O' : Old w p1 := (by rw [hp]; exact Below.trans (b := (w.alloc (.cells #[.bool false, .slice none 0 0, .slice none 0 0] 26))) O oldB)
  replace B_r : Bx p1 (w.heap.size) #[.bool false, .slice none 0 0, .slice none 0 0] := (by rw [hp]; repeat' (first | (with_reducible exact B_r) | (with_reducible refine Bx.alloc ?_ _) | (with_reducible refine Bx.drewN ?_ _) | (with_reducible refine Bx.drew ?_) | refine Bx.far ?_ (by first | assumption | (simp <;> done) | (simp; omega) | omega) _))
  have zp1 : (w.alloc (.cells #[.bool false, .slice none 0 0, .slice none 0 0] 26)).heap.size ≤ p1.heap.size := (by rw [hp]; exact leA)
  clear hp O
  have O := O'
  clear O'
  refine (cut_yes s 47 i _ b HI.out hi).mono ?_
  rintro e w1 ⟨rfl, o1⟩
  replace B_r := Bx.old B_r o1
  replace O := Old.trans O o1
  have zw1 := o1.size
  rw [E0.out, E1.out]
  have q_r_0 := B_r.cell 0 rfl
  have q_r_1 := B_r.cell 1 rfl
  have q_r_2 := B_r.cell 2 rfl
  have f_r_0 := B_r.frozen 0
  have f_r_1 := B_r.frozen 1
  have f_r_2 := B_r.frozen 2
  have q_r := B_r.lt
  go_wp2_with fail
  refine callsNamed ?_
  intro p2 hp
  clear q_r_0 q_r_1 q_r_2 f_r_0 f_r_1 f_r_2 q_r
  have O' : Old w p2 := (by rw [hp]; exact Below.trans (b := w1) O oldB)
  replace B_r : Bx p2 (w.heap.size) #[.bool false, .slice none 0 0, .slice none 0 0] := (by rw [hp]; repeat' (first | (with_reducible exact B_r) | (with_reducible refine Bx.alloc ?_ _) | (with_reducible refine Bx.drewN ?_ _) | (with_reducible refine Bx.drew ?_) | refine Bx.far ?_ (by first | assumption | (simp <;> done) | (simp; omega) | omega) _))
  have zp2 : w1.heap.size ≤ p2.heap.size := (by rw [hp]; exact leA)
  clear hp O
  have O := O'
  clear O'
  refine (implBig_c sA z true _ HP.out HZ.out HT.out).mono ?_
  rintro e w2 ⟨⟨A1, c1, rfl, r1⟩, o2⟩
  replace B_r := Bx.old B_r o2
  replace O := Old.trans O o2
  have zw2 := o2.size
  replace r1 := Row.more (lo' := p2.heap.size) r1 leA
  have lim_r1 := Row.lim r1
  have q_r_0 := B_r.cell 0 rfl
  have q_r_1 := B_r.cell 1 rfl
  have q_r_2 := B_r.cell 2 rfl
  have f_r_0 := B_r.frozen 0
  have f_r_1 := B_r.frozen 1
  have f_r_2 := B_r.frozen 2
  have q_r := B_r.lt
  go_wp2_with fail
  refine callsNamed ?_
  intro p3 hp
  clear q_r_0 q_r_1 q_r_2 f_r_0 f_r_1 f_r_2 q_r
  have O' : Old w p3 := (by rw [hp]; exact Below.trans (b := w2) O oldB)
  replace B_r : Bx p3 (w.heap.size) #[.bool false, .slice none 0 0, .slice none 0 0] := (by rw [hp]; repeat' (first | (with_reducible exact B_r) | (with_reducible refine Bx.alloc ?_ _) | (with_reducible refine Bx.drewN ?_ _) | (with_reducible refine Bx.drew ?_) | refine Bx.far ?_ (by first | assumption | (simp <;> done) | (simp; omega) | omega) _))
  replace r1 := Row.at r1 p3 (by rw [hp]; repeat' (first | (with_reducible exact r1) | (with_reducible refine Row.alloc' ?_ _) | (with_reducible refine Row.drewN ?_ _) | (with_reducible refine Row.drew' ?_) | refine Row.far_off ?_ (by assumption) _ | refine Row.far_set ?_ (by first | (simp <;> done) | (simp; omega) | omega) _))
  have B_n : Bx p3 (w2.heap.size) #[.bool (sgnZ z), .slice A1 (len (magZ z)) c1] := (by rw [hp]; repeat' (first | (exact Bx.newAt3 (by first | rfl | (simp <;> done))) | (exact Bx.put2 (Bx.newAt3 (by first | rfl | (simp <;> done))) _ _) | (with_reducible refine Bx.alloc ?_ _) | (with_reducible refine Bx.drewN ?_ _) | (with_reducible refine Bx.drew ?_) | refine Bx.far ?_ (by first | assumption | (simp <;> done) | (simp; omega) | omega) _))
  have lt_n := B_n.lt
  have ne_n_r : ¬ (w2.heap.size = w.heap.size) := by omega
  have en_n_r : ¬ (w.heap.size = w2.heap.size) := by omega
  have B_l : Bx p3 (w2.heap.size + 1) #[.int .i64 1] := (by rw [hp]; repeat' (first | (exact Bx.newAt3 (by first | rfl | (simp <;> done))) | (with_reducible refine Bx.alloc ?_ _) | (with_reducible refine Bx.drewN ?_ _) | (with_reducible refine Bx.drew ?_) | refine Bx.far ?_ (by first | assumption | (simp <;> done) | (simp; omega) | omega) _))
  have lt_l := B_l.lt
  have ne_l_r : ¬ (w2.heap.size + 1 = w.heap.size) := by omega
  have en_l_r : ¬ (w.heap.size = w2.heap.size + 1) := by omega
  have ne_l_n : ¬ (w2.heap.size + 1 = w2.heap.size) := by omega
  have en_l_n : ¬ (w2.heap.size = w2.heap.size + 1) := by omega
  have B_q : Bx p3 (w2.heap.size + 1 + 1) #[.bool (sgnZ z), .slice A1 (len (magZ z)) c1, .slice (some ⟨w2.heap.size + 1, 0, none⟩) (len 1) 1] := (by rw [hp, one_len]; repeat' (first | (exact Bx.newAt3 (by first | rfl | (simp <;> done))) | (exact Bx.put3 (Bx.newAt3 (by first | rfl | (simp <;> done))) _ _ _) | (with_reducible refine Bx.alloc ?_ _) | (with_reducible refine Bx.drewN ?_ _) | (with_reducible refine Bx.drew ?_) | refine Bx.far ?_ (by first | assumption | (simp <;> done) | (simp; omega) | omega) _))
  have lt_q := B_q.lt
  have ne_q_r : ¬ (w2.heap.size + 1 + 1 = w.heap.size) := by omega
  have en_q_r : ¬ (w.heap.size = w2.heap.size + 1 + 1) := by omega
  have ne_q_n : ¬ (w2.heap.size + 1 + 1 = w2.heap.size) := by omega
  have en_q_n : ¬ (w2.heap.size = w2.heap.size + 1 + 1) := by omega
  have ne_q_l : ¬ (w2.heap.size + 1 + 1 = w2.heap.size + 1) := by omega
  have en_q_l : ¬ (w2.heap.size + 1 = w2.heap.size + 1 + 1) := by omega
  have zp3 : w2.heap.size ≤ p3.heap.size := (by rw [hp]; exact leA)
  clear hp O
  have O := O'
  clear O'
  have rl := one_box B_l (lo := w2.heap.size) (by omega)
  have off_r1 : Off (w2.heap.size + 1 + 1) A1 (len (magZ z)) := Lim.off lim_r1 (by omega)
  have off_rl : Off (w2.heap.size + 1 + 1) (some (⟨w2.heap.size + 1, 0, none⟩ : Addr)) (len 1) := Off.one (by omega)
  refine (implNat_c sB d true _ HQ.out HD.out HU.out).mono ?_
  rintro e w3 ⟨⟨A2, c2, rfl, r2⟩, o3⟩
  replace B_r := Bx.old B_r o3
  replace B_n := Bx.old B_n o3
  replace B_l := Bx.old B_l o3
  replace B_q := Bx.old B_q o3
  replace r1 := Row.below r1 o3 (Nat.le_refl _)
  replace rl := Row.below rl o3 (Nat.le_refl _)
  replace O := Old.trans O o3
  have zw3 := o3.size
  replace r2 := Row.more (lo' := p3.heap.size) r2 leA
  have lim_r2 := Row.lim r2
  have q_r_0 := B_r.cell 0 rfl
  have q_r_1 := B_r.cell 1 rfl
  have q_r_2 := B_r.cell 2 rfl
  have f_r_0 := B_r.frozen 0
  have f_r_1 := B_r.frozen 1
  have f_r_2 := B_r.frozen 2
  have q_r := B_r.lt
  have q_n_0 := B_n.cell 0 rfl
  have q_n_1 := B_n.cell 1 rfl
  have f_n_0 := B_n.frozen 0
  have f_n_1 := B_n.frozen 1
  have q_n := B_n.lt
  have q_l_0 := B_l.cell 0 rfl
  have f_l_0 := B_l.frozen 0
  have q_l := B_l.lt
  have q_q_0 := B_q.cell 0 rfl
  have q_q_1 := B_q.cell 1 rfl
  have q_q_2 := B_q.cell 2 rfl
  have f_q_0 := B_q.frozen 0
  have f_q_1 := B_q.frozen 1
  have f_q_2 := B_q.frozen 2
  have q_q := B_q.lt
  go_wp2_with fail
  refine callsNamed ?_
  intro p4 hp
  clear q_r_0 q_r_1 q_r_2 f_r_0 f_r_1 f_r_2 q_r q_n_0 q_n_1 f_n_0 f_n_1 q_n q_l_0 f_l_0 q_l q_q_0 q_q_1 q_q_2 f_q_0 f_q_1 f_q_2 q_q
  have O' : Old w p4 := (by rw [hp]; exact Below.trans (b := w3) O oldB)
  replace B_r : Bx p4 (w.heap.size) #[.bool false, .slice none 0 0, .slice none 0 0] := (by rw [hp]; repeat' (first | (with_reducible exact B_r) | (with_reducible refine Bx.alloc ?_ _) | (with_reducible refine Bx.drewN ?_ _) | (with_reducible refine Bx.drew ?_) | refine Bx.far ?_ (by first | assumption | (simp <;> done) | (simp; omega) | omega) _))
  replace B_n : Bx p4 (w2.heap.size) #[.bool (sgnZ z), .slice A1 (len (magZ z)) c1] := (by rw [hp]; repeat' (first | (with_reducible exact B_n) | (with_reducible refine Bx.alloc ?_ _) | (with_reducible refine Bx.drewN ?_ _) | (with_reducible refine Bx.drew ?_) | refine Bx.far ?_ (by first | assumption | (simp <;> done) | (simp; omega) | omega) _))
  replace B_l : Bx p4 (w2.heap.size + 1) #[.int .i64 1] := (by rw [hp]; repeat' (first | (with_reducible exact B_l) | (with_reducible refine Bx.alloc ?_ _) | (with_reducible refine Bx.drewN ?_ _) | (with_reducible refine Bx.drew ?_) | refine Bx.far ?_ (by first | assumption | (simp <;> done) | (simp; omega) | omega) _))
  replace B_q : Bx p4 (w2.heap.size + 1 + 1) #[.bool (sgnZ z), .slice A1 (len (magZ z)) c1, .slice A2 (len d) c2] := (by rw [hp]; repeat' (first | (with_reducible exact B_q) | (with_reducible refine Bx.alloc ?_ _) | (with_reducible refine Bx.drewN ?_ _) | (with_reducible refine Bx.drew ?_) | refine Bx.set (cs := #[.bool (sgnZ z), .slice A1 (len (magZ z)) c1, .slice (some ⟨w2.heap.size + 1, 0, none⟩) (len 1) 1]) ?_ 2 _ | refine Bx.far ?_ (by first | assumption | (simp <;> done) | (simp; omega) | omega) _))
  replace r1 := Row.at r1 p4 (by rw [hp]; repeat' (first | (with_reducible exact r1) | (with_reducible refine Row.alloc' ?_ _) | (with_reducible refine Row.drewN ?_ _) | (with_reducible refine Row.drew' ?_) | refine Row.far_off ?_ (by assumption) _ | refine Row.far_set ?_ (by first | (simp <;> done) | (simp; omega) | omega) _))
  replace rl := Row.at rl p4 (by rw [hp]; repeat' (first | (with_reducible exact rl) | (with_reducible refine Row.alloc' ?_ _) | (with_reducible refine Row.drewN ?_ _) | (with_reducible refine Row.drew' ?_) | refine Row.far_off ?_ (by assumption) _ | refine Row.far_set ?_ (by first | (simp <;> done) | (simp; omega) | omega) _))
  replace r2 := Row.at r2 p4 (by rw [hp]; repeat' (first | (with_reducible exact r2) | (with_reducible refine Row.alloc' ?_ _) | (with_reducible refine Row.drewN ?_ _) | (with_reducible refine Row.drew' ?_) | refine Row.far_off ?_ (by assumption) _ | refine Row.far_set ?_ (by first | (simp <;> done) | (simp; omega) | omega) _))
  have zp4 : w3.heap.size ≤ p4.heap.size := (by rw [hp]; exact leA)
  clear hp O
  have O := O'
  clear O'
  refine (plain_to (by rw [rRatOk_yes K3.out]) (impl_RatOk (sgnZ z) A1 (len (magZ z)) c1 _ (digI (magZ z)) A2 (len d) c2 _ (digI d) _ r1 r2 (by omega) (by omega))).mono ?_
  rintro e w4 ⟨rfl, o4⟩
  replace B_r := Bx.old B_r o4
  replace B_n := Bx.old B_n o4
  replace B_l := Bx.old B_l o4
  replace B_q := Bx.old B_q o4
  replace r1 := Row.below r1 o4 (Nat.le_refl _)
  replace rl := Row.below rl o4 (Nat.le_refl _)
  replace r2 := Row.below r2 o4 (Nat.le_refl _)
  replace O := Old.trans O o4
  have zw4 := o4.size
  have q_r_0 := B_r.cell 0 rfl
  have q_r_1 := B_r.cell 1 rfl
  have q_r_2 := B_r.cell 2 rfl
  have f_r_0 := B_r.frozen 0
  have f_r_1 := B_r.frozen 1
  have f_r_2 := B_r.frozen 2
  have q_r := B_r.lt
  have q_n_0 := B_n.cell 0 rfl
  have q_n_1 := B_n.cell 1 rfl
  have f_n_0 := B_n.frozen 0
  have f_n_1 := B_n.frozen 1
  have q_n := B_n.lt
  have q_l_0 := B_l.cell 0 rfl
  have f_l_0 := B_l.frozen 0
  have q_l := B_l.lt
  have q_q_0 := B_q.cell 0 rfl
  have q_q_1 := B_q.cell 1 rfl
  have q_q_2 := B_q.cell 2 rfl
  have f_q_0 := B_q.frozen 0
  have f_q_1 := B_q.frozen 1
  have f_q_2 := B_q.frozen 2
  have q_q := B_q.lt
  go_wp2_with fail
  refine callsNamed ?_
  intro p5 hp
  clear q_r_0 q_r_1 q_r_2 f_r_0 f_r_1 f_r_2 q_r q_n_0 q_n_1 f_n_0 f_n_1 q_n q_l_0 f_l_0 q_l q_q_0 q_q_1 q_q_2 f_q_0 f_q_1 f_q_2 q_q
  have O' : Old w p5 := (by rw [hp]; exact Below.trans (b := w4) O oldB)
  replace B_r : Bx p5 (w.heap.size) #[.bool false, .slice none 0 0, .slice none 0 0] := (by rw [hp]; repeat' (first | (with_reducible exact B_r) | (with_reducible refine Bx.alloc ?_ _) | (with_reducible refine Bx.drewN ?_ _) | (with_reducible refine Bx.drew ?_) | refine Bx.far ?_ (by first | assumption | (simp <;> done) | (simp; omega) | omega) _))
  replace B_n : Bx p5 (w2.heap.size) #[.bool (sgnZ z), .slice A1 (len (magZ z)) c1] := (by rw [hp]; repeat' (first | (with_reducible exact B_n) | (with_reducible refine Bx.alloc ?_ _) | (with_reducible refine Bx.drewN ?_ _) | (with_reducible refine Bx.drew ?_) | refine Bx.far ?_ (by first | assumption | (simp <;> done) | (simp; omega) | omega) _))
  replace B_l : Bx p5 (w2.heap.size + 1) #[.int .i64 1] := (by rw [hp]; repeat' (first | (with_reducible exact B_l) | (with_reducible refine Bx.alloc ?_ _) | (with_reducible refine Bx.drewN ?_ _) | (with_reducible refine Bx.drew ?_) | refine Bx.far ?_ (by first | assumption | (simp <;> done) | (simp; omega) | omega) _))
  replace B_q : Bx p5 (w2.heap.size + 1 + 1) #[.bool (sgnZ z), .slice A1 (len (magZ z)) c1, .slice A2 (len d) c2] := (by rw [hp]; repeat' (first | (with_reducible exact B_q) | (with_reducible refine Bx.alloc ?_ _) | (with_reducible refine Bx.drewN ?_ _) | (with_reducible refine Bx.drew ?_) | refine Bx.far ?_ (by first | assumption | (simp <;> done) | (simp; omega) | omega) _))
  replace r1 := Row.at r1 p5 (by rw [hp]; repeat' (first | (with_reducible exact r1) | (with_reducible refine Row.alloc' ?_ _) | (with_reducible refine Row.drewN ?_ _) | (with_reducible refine Row.drew' ?_) | refine Row.far_off ?_ (by assumption) _ | refine Row.far_set ?_ (by first | (simp <;> done) | (simp; omega) | omega) _))
  replace rl := Row.at rl p5 (by rw [hp]; repeat' (first | (with_reducible exact rl) | (with_reducible refine Row.alloc' ?_ _) | (with_reducible refine Row.drewN ?_ _) | (with_reducible refine Row.drew' ?_) | refine Row.far_off ?_ (by assumption) _ | refine Row.far_set ?_ (by first | (simp <;> done) | (simp; omega) | omega) _))
  replace r2 := Row.at r2 p5 (by rw [hp]; repeat' (first | (with_reducible exact r2) | (with_reducible refine Row.alloc' ?_ _) | (with_reducible refine Row.drewN ?_ _) | (with_reducible refine Row.drew' ?_) | refine Row.far_off ?_ (by assumption) _ | refine Row.far_set ?_ (by first | (simp <;> done) | (simp; omega) | omega) _))
  have zp5 : w4.heap.size ≤ p5.heap.size := (by rw [hp]; exact leA)
  clear hp O
  have O := O'
  clear O'
  refine (formatRat_any (sgnZ z) A1 (len (magZ z)) c1 _ (digI (magZ z)) A2 (len d) c2 _ (digI d) _ r1 r2 K3.out (KT.old K O)).mono ?_
  rintro e w5 ⟨rfl, o5⟩
  replace B_r := Bx.old B_r o5
  replace B_n := Bx.old B_n o5
  replace B_l := Bx.old B_l o5
  replace B_q := Bx.old B_q o5
  replace r1 := Row.below r1 o5 (Nat.le_refl _)
  replace rl := Row.below rl o5 (Nat.le_refl _)
  replace r2 := Row.below r2 o5 (Nat.le_refl _)
  replace O := Old.trans O o5
  have zw5 := o5.size
  rw [show ratT (sgnZ z) (len (magZ z)) (digI (magZ z)) (len d) (digI d) = txQ z d from rfl]
  rw [K4.out]
  have q_r_0 := B_r.cell 0 rfl
  have q_r_1 := B_r.cell 1 rfl
  have q_r_2 := B_r.cell 2 rfl
  have f_r_0 := B_r.frozen 0
  have f_r_1 := B_r.frozen 1
  have f_r_2 := B_r.frozen 2
  have q_r := B_r.lt
  have q_n_0 := B_n.cell 0 rfl
  have q_n_1 := B_n.cell 1 rfl
  have f_n_0 := B_n.frozen 0
  have f_n_1 := B_n.frozen 1
  have q_n := B_n.lt
  have q_l_0 := B_l.cell 0 rfl
  have f_l_0 := B_l.frozen 0
  have q_l := B_l.lt
  have q_q_0 := B_q.cell 0 rfl
  have q_q_1 := B_q.cell 1 rfl
  have q_q_2 := B_q.cell 2 rfl
  have f_q_0 := B_q.frozen 0
  have f_q_1 := B_q.frozen 1
  have f_q_2 := B_q.frozen 2
  have q_q := B_q.lt
  go_wp2
  refine bodyPost_ret (v := .tuple #[.agg #[.bool (sgnZ z), .slice A1 (len (magZ z)) c1, .slice A2 (len d) c2], .bool true]) (by simp [results, Tryz.results6, go_sem, q_r_0, q_r_1, q_r_2]) rfl ⟨⟨z, d, A1, c1, A2, c2, rfl, rfl, ?_, ?_, Apart.of lim_r1 r2 (by omega)⟩, ?_⟩
  · refine Row.more (lo := p2.heap.size) ?_ leA
    repeat' (first | (with_reducible exact r1) | (with_reducible refine Row.far_set ?_ (by first | (simp <;> done) | (simp; omega) | omega) _))
  · refine Row.more (lo := p3.heap.size) ?_ leA
    repeat' (first | (with_reducible exact r2) | (with_reducible refine Row.far_set ?_ (by first | (simp <;> done) | (simp; omega) | omega) _))
  · exact Below.trans (b := w5) O oldB
theorem impl_ParseRat (s : ByteArray) (w : World) (b : s.size ≤ 1048576) (K : KT w) :
    Calls Tryz.prog 6 #[.string s] w fun e w' => RetRB e w' w.heap.size (vParseRat s) (rParseRat1 s) ∧ Old w w' := by
  by_cases hk : okQ s
  · obtain ⟨z, d, n1, p1, hs⟩ := hk
    have l1 := norm_len n1
    simp only at l1
    have hp := pq_is n1 p1 hs
    rw [hp.1, hp.2]
    have k3 := (okR_val n1).2 p1
    have hb := parse_big (z := z) (by omega)
    by_cases e1 : d = 1
    · subst e1
      have hi := txZ_nocut (z := z) (by omega)
      rw [txQ_one] at hs
      rw [hs] at hi hb
      exact impl_ParseRat_one_yes s z w b K true hi hb.1 hb.2 rfl k3 (by rw [txQ_one]; exact hs)
    · have hc := txQ_cut (z := z) (d := d) (by omega) (by omega) e1
      rw [hs] at hc
      have hn := parse_format (x := d) (by omega)
      exact impl_ParseRat_cut_yes s z w b K (txZ z) (txN d) d true true (txZ z).size hc.index (by have := hc.size; omega) hc.left hc.right hb.1 hb.2 hn.1 hn.2 rfl rfl k3 hs
  · have hp := pq_not hk
    rw [hp.1, hp.2]
    have hfin : ∀ (z : Int) (d : Nat), len (magZ z) ≤ 60 → len d ≤ 60 → okR (sgnZ z) (len (magZ z)) (digI (magZ z)) (len d) (digI d) → ¬ txQ z d = s := by
      intro z d h1 h2 k e
      have hv := val_of_okR h1 h2 k
      exact hk ⟨z, d, hv.1, hv.2, e⟩
    rcases (by have := Lib.indexByte_ge s.data.toList 47; omega : Lib.indexByte s.data.toList 47 = -1 ∨ 0 ≤ Lib.indexByte s.data.toList 47) with h | h
    · cases h1 : rParseBigInt1 s with
      | false => exact impl_ParseRat_one_no1 s _ w b K false h rfl h1 rfl
      | true =>
        by_cases k3 : okR (sgnZ (zParseBigInt s)) (len (magZ (zParseBigInt s))) (digI (magZ (zParseBigInt s))) (len 1) (digI 1)
        · exact impl_ParseRat_one_no4 s _ w b K true h rfl h1 rfl k3 (hfin _ _ (zParseBigInt_len s) (by rw [one_len]; omega) k3)
        · exact impl_ParseRat_one_no3 s _ w b K true h rfl h1 rfl k3
    · obtain ⟨i, hi⟩ : ∃ i : Nat, Lib.indexByte s.data.toList 47 = (i : Int) := ⟨(Lib.indexByte s.data.toList 47).toNat, by omega⟩
      have hlt := (index_found hi).1
      cases h1 : rParseBigInt1 (s.extract 0 i) with
      | false => exact impl_ParseRat_cut_no1 s _ w b K _ _ _ false (rParseNat1 (s.extract (i + 1) s.size)) i hi hlt rfl rfl rfl h1 rfl rfl rfl
      | true =>
        cases h2 : rParseNat1 (s.extract (i + 1) s.size) with
        | false => exact impl_ParseRat_cut_no2 s _ w b K _ _ _ true false i hi hlt rfl rfl rfl h1 rfl h2 rfl rfl
        | true =>
          by_cases k3 : okR (sgnZ (zParseBigInt (s.extract 0 i))) (len (magZ (zParseBigInt (s.extract 0 i)))) (digI (magZ (zParseBigInt (s.extract 0 i)))) (len (rParseNat (s.extract (i + 1) s.size))) (digI (rParseNat (s.extract (i + 1) s.size)))
          · exact impl_ParseRat_cut_no4 s _ w b K _ _ _ true true i hi hlt rfl rfl rfl h1 rfl h2 rfl rfl k3 (hfin _ _ (zParseBigInt_len _) (rParseNat_len _) k3)
          · exact impl_ParseRat_cut_no3 s _ w b K _ _ _ true true i hi hlt rfl rfl rfl h1 rfl h2 rfl rfl k3
set_option maxRecDepth 100000 in
set_option maxHeartbeats 8000000 in
theorem spec_ParseRat_one_no1 (s : ByteArray) (z : Int) (w : World) (b : s.size ≤ 1048576) (sA : ByteArray) (b1 : Bool) (hsp : rSplitAny s ⟨#[47]⟩ = [sA]) (hz : zParseBigInt sA = z) (ht : rParseBigInt1 sA = b1) (k1 : b1 = false) :
    Calls Tryz.prog 5 #[.string s] w fun e w' => RetRB e w' w.heap.size (0, 0) false ∧ Old w w' := by
  subst k1
  have hlz : len (magZ z) ≤ 60 := by rw [← hz]; exact zParseBigInt_len _
  have HZ := Lib.hid hz
  have HT := Lib.hid ht
  clear hz ht
  have hld : len 1 ≤ 60 := by rw [one_len]; omega
  have HP : Hid (sA.size ≤ maxLen) := Lib.hid (by have := Nat.le_trans (piecesQ (s := s) (y := ⟨#[47]⟩) (p := sA) (by rw [hsp]; simp)) b; unfold maxLen; omega)
  have hL : 1 = (rSplitAny s ⟨#[47]⟩).length := by rw [hsp]; rfl
  have HL := Lib.hid hL
  have G0 : Hid ((rSplitAny s ⟨#[47]⟩).getD 0 ByteArray.empty = sA) := Lib.hid (by rw [hsp]; rfl)
  clear hsp hL
  have O : Old w (w.alloc (.cells #[.bool false, .slice none 0 0, .slice none 0 0] 26)) := oldB
  have B_r : Bx (w.alloc (.cells #[.bool false, .slice none 0 0, .slice none 0 0] 26)) (w.heap.size) #[.bool false, .slice none 0 0, .slice none 0 0] := by have h := (Bx.new w #[.bool false, .slice none 0 0, .slice none 0 0] 26); simpa using h
  have ze : w.heap.size + 1 ≤ (w.alloc (.cells #[.bool false, .slice none 0 0, .slice none 0 0] 26)).heap.size := (by simp)
  go_enter Tryz.func5, Tryz.ntmps5
  go_wp2_with fail
  refine callsNamed ?_
  intro p1 hp
  have O' : Old w p1 := (by rw [hp]; exact Below.trans (b := (w.alloc (.cells #[.bool false, .slice none 0 0, .slice none 0 0] 26))) O oldB)
  replace B_r : Bx p1 (w.heap.size) #[.bool false, .slice none 0 0, .slice none 0 0] := (by rw [hp]; repeat' (first | (with_reducible exact B_r) | (with_reducible refine Bx.alloc ?_ _) | (with_reducible refine Bx.drewN ?_ _) | (with_reducible refine Bx.drew ?_) | refine Bx.far ?_ (by first | assumption | (simp <;> done) | (simp; omega) | omega) _))
  have zp1 : (w.alloc (.cells #[.bool false, .slice none 0 0, .slice none 0 0] 26)).heap.size ≤ p1.heap.size := (by rw [hp]; exact leA)
  clear hp O
  have O := O'
  clear O'
  refine (spec_SplitAny s ⟨#[47]⟩ _ b (by show 1 ≤ _; omega)).mono ?_
  rintro e w1 ⟨⟨A, c, rfl, R⟩, o1⟩
  replace B_r := Bx.old B_r o1
  replace O := Old.trans O o1
  have zw1 := o1.size
  replace R := strs_len R HL.out
  rw [← HL.out]
  obtain ⟨bb, ob, rfl, _, hbs, _, hc⟩ := R.2 (by omega)
  have hx0 : w1.cell? ⟨bb, ob, none⟩ = some (.string sA) := (hc 0 (by omega)).trans (congrArg (fun x => some (Value.string x)) G0.out)
  clear hc R
  have q_r_0 := B_r.cell 0 rfl
  have q_r_1 := B_r.cell 1 rfl
  have q_r_2 := B_r.cell 2 rfl
  have f_r_0 := B_r.frozen 0
  have f_r_1 := B_r.frozen 1
  have f_r_2 := B_r.frozen 2
  have q_r := B_r.lt
  go_wp2_with fail
  refine callsNamed ?_
  intro p2 hp
  clear q_r_0 q_r_1 q_r_2 f_r_0 f_r_1 f_r_2 q_r
  have O' : Old w p2 := (by rw [hp]; exact Below.trans (b := w1) O oldB)
  replace B_r : Bx p2 (w.heap.size) #[.bool false, .slice none 0 0, .slice none 0 0] := (by rw [hp]; repeat' (first | (with_reducible exact B_r) | (with_reducible refine Bx.alloc ?_ _) | (with_reducible refine Bx.drewN ?_ _) | (with_reducible refine Bx.drew ?_) | refine Bx.far ?_ (by first | assumption | (simp <;> done) | (simp; omega) | omega) _))
  have zp2 : w1.heap.size ≤ p2.heap.size := (by rw [hp]; exact leA)
  clear hp O
  have O := O'
  clear O'
  refine (specBig_c sA z false _ HP.out HZ.out HT.out).mono ?_
  rintro e w2 ⟨⟨A1, c1, rfl, r1⟩, o2⟩
  replace B_r := Bx.old B_r o2
  replace O := Old.trans O o2
  have zw2 := o2.size
  replace r1 := Row.more (lo' := p2.heap.size) r1 leA
  have lim_r1 := Row.lim r1
  clear hx0
  have q_r_0 := B_r.cell 0 rfl
  have q_r_1 := B_r.cell 1 rfl
  have q_r_2 := B_r.cell 2 rfl
  have f_r_0 := B_r.frozen 0
  have f_r_1 := B_r.frozen 1
  have f_r_2 := B_r.frozen 2
  have q_r := B_r.lt
  go_upto_region 8 with fail
  refine wpNamed ?_
  intro p3 hp
  clear q_r_0 q_r_1 q_r_2 f_r_0 f_r_1 f_r_2 q_r
  have O' : Old w p3 := (by rw [hp]; exact Below.trans (b := w2) O oldB)
  replace B_r : Bx p3 (w.heap.size) #[.bool false, .slice none 0 0, .slice none 0 0] := (by rw [hp]; repeat' (first | (with_reducible exact B_r) | (with_reducible refine Bx.alloc ?_ _) | (with_reducible refine Bx.drewN ?_ _) | (with_reducible refine Bx.drew ?_) | refine Bx.far ?_ (by first | assumption | (simp <;> done) | (simp; omega) | omega) _))
  replace r1 := Row.at r1 p3 (by rw [hp]; repeat' (first | (with_reducible exact r1) | (with_reducible refine Row.alloc' ?_ _) | (with_reducible refine Row.drewN ?_ _) | (with_reducible refine Row.drew' ?_) | refine Row.far_off ?_ (by assumption) _ | refine Row.far_set ?_ (by first | (simp <;> done) | (simp; omega) | omega) _))
  have B_n : Bx p3 (w2.heap.size) #[.bool (sgnZ z), .slice A1 (len (magZ z)) c1] := (by rw [hp]; repeat' (first | (exact Bx.newAt3 (by first | rfl | (simp <;> done))) | (exact Bx.put2 (Bx.newAt3 (by first | rfl | (simp <;> done))) _ _) | (with_reducible refine Bx.alloc ?_ _) | (with_reducible refine Bx.drewN ?_ _) | (with_reducible refine Bx.drew ?_) | refine Bx.far ?_ (by first | assumption | (simp <;> done) | (simp; omega) | omega) _))
  have lt_n := B_n.lt
  have ne_n_r : ¬ (w2.heap.size = w.heap.size) := by omega
  have en_n_r : ¬ (w.heap.size = w2.heap.size) := by omega
  have B_l : Bx p3 (w2.heap.size + 1) #[.int .i64 1] := (by rw [hp]; repeat' (first | (exact Bx.newAt3 (by first | rfl | (simp <;> done))) | (with_reducible refine Bx.alloc ?_ _) | (with_reducible refine Bx.drewN ?_ _) | (with_reducible refine Bx.drew ?_) | refine Bx.far ?_ (by first | assumption | (simp <;> done) | (simp; omega) | omega) _))
  have lt_l := B_l.lt
  have ne_l_r : ¬ (w2.heap.size + 1 = w.heap.size) := by omega
  have en_l_r : ¬ (w.heap.size = w2.heap.size + 1) := by omega
  have ne_l_n : ¬ (w2.heap.size + 1 = w2.heap.size) := by omega
  have en_l_n : ¬ (w2.heap.size = w2.heap.size + 1) := by omega
  have B_q : Bx p3 (w2.heap.size + 1 + 1) #[.bool (sgnZ z), .slice A1 (len (magZ z)) c1, .slice (some ⟨w2.heap.size + 1, 0, none⟩) (len 1) 1] := (by rw [hp, one_len]; repeat' (first | (exact Bx.newAt3 (by first | rfl | (simp <;> done))) | (exact Bx.put3 (Bx.newAt3 (by first | rfl | (simp <;> done))) _ _ _) | (with_reducible refine Bx.alloc ?_ _) | (with_reducible refine Bx.drewN ?_ _) | (with_reducible refine Bx.drew ?_) | refine Bx.far ?_ (by first | assumption | (simp <;> done) | (simp; omega) | omega) _))
  have lt_q := B_q.lt
  have ne_q_r : ¬ (w2.heap.size + 1 + 1 = w.heap.size) := by omega
  have en_q_r : ¬ (w.heap.size = w2.heap.size + 1 + 1) := by omega
  have ne_q_n : ¬ (w2.heap.size + 1 + 1 = w2.heap.size) := by omega
  have en_q_n : ¬ (w2.heap.size = w2.heap.size + 1 + 1) := by omega
  have ne_q_l : ¬ (w2.heap.size + 1 + 1 = w2.heap.size + 1) := by omega
  have en_q_l : ¬ (w2.heap.size + 1 = w2.heap.size + 1 + 1) := by omega
  have zp3 : w2.heap.size ≤ p3.heap.size := (by rw [hp]; exact leA)
  clear hp O
  have O := O'
  clear O'
  have rl := one_box B_l (lo := w2.heap.size) (by omega)
  have q_r_0 := B_r.cell 0 rfl
  have q_r_1 := B_r.cell 1 rfl
  have q_r_2 := B_r.cell 2 rfl
  have f_r_0 := B_r.frozen 0
  have f_r_1 := B_r.frozen 1
  have f_r_2 := B_r.frozen 2
  have q_r := B_r.lt
  have q_n_0 := B_n.cell 0 rfl
  have q_n_1 := B_n.cell 1 rfl
  have f_n_0 := B_n.frozen 0
  have f_n_1 := B_n.frozen 1
  have q_n := B_n.lt
  have q_l_0 := B_l.cell 0 rfl
  have f_l_0 := B_l.frozen 0
  have q_l := B_l.lt
  have q_q_0 := B_q.cell 0 rfl
  have q_q_1 := B_q.cell 1 rfl
  have q_q_2 := B_q.cell 2 rfl
  have f_q_0 := B_q.frozen 0
  have f_q_1 := B_q.frozen 1
  have f_q_2 := B_q.frozen 2
  have q_q := B_q.lt
  go_wp2
  refine bodyPost_ret (v := .tuple #[.agg #[.bool false, .slice none 0 0, .slice none 0 0], .bool false]) (by simp [results, Tryz.results5, go_sem, q_r_0, q_r_1, q_r_2]) rfl ⟨RetRB.zero rfl, Below.trans (b := p3) O oldB⟩
set_option maxRecDepth 100000 in
set_option maxHeartbeats 8000000 in
theorem spec_ParseRat_one_no3 (s : ByteArray) (z : Int) (w : World) (b : s.size ≤ 1048576) (sA : ByteArray) (b1 : Bool) (hsp : rSplitAny s ⟨#[47]⟩ = [sA]) (hz : zParseBigInt sA = z) (ht : rParseBigInt1 sA = b1) (k1 : b1 = true) (k3 : ¬ okR (sgnZ z) (len (magZ z)) (digI (magZ z)) (len 1) (digI 1)) :
    Calls Tryz.prog 5 #[.string s] w fun e w' => RetRB e w' w.heap.size (0, 0) false ∧ Old w w' := by
  subst k1
  have hlz : len (magZ z) ≤ 60 := by rw [← hz]; exact zParseBigInt_len _
  have HZ := Lib.hid hz
  have HT := Lib.hid ht
  clear hz ht
  have hld : len 1 ≤ 60 := by rw [one_len]; omega
  have HP : Hid (sA.size ≤ maxLen) := Lib.hid (by have := Nat.le_trans (piecesQ (s := s) (y := ⟨#[47]⟩) (p := sA) (by rw [hsp]; simp)) b; unfold maxLen; omega)
  have hL : 1 = (rSplitAny s ⟨#[47]⟩).length := by rw [hsp]; rfl
  have HL := Lib.hid hL
  have G0 : Hid ((rSplitAny s ⟨#[47]⟩).getD 0 ByteArray.empty = sA) := Lib.hid (by rw [hsp]; rfl)
  clear hsp hL
  have K3 := Lib.hid k3
  clear k3
  have O : Old w (w.alloc (.cells #[.bool false, .slice none 0 0, .slice none 0 0] 26)) := oldB
  have B_r : Bx (w.alloc (.cells #[.bool false, .slice none 0 0, .slice none 0 0] 26)) (w.heap.size) #[.bool false, .slice none 0 0, .slice none 0 0] := by have h := (Bx.new w #[.bool false, .slice none 0 0, .slice none 0 0] 26); simpa using h
  have ze : w.heap.size + 1 ≤ (w.alloc (.cells #[.bool false, .slice none 0 0, .slice none 0 0] 26)).heap.size := (by simp)
  go_enter Tryz.func5, Tryz.ntmps5
  go_wp2_with fail
  refine callsNamed ?_
  intro p1 hp
  have O' : Old w p1 := (by rw [hp]; exact Below.trans (b := (w.alloc (.cells #[.bool false, .slice none 0 0, .slice none 0 0] 26))) O oldB)
  replace B_r : Bx p1 (w.heap.size) #[.bool false, .slice none 0 0, .slice none 0 0] := (by rw [hp]; repeat' (first | (with_reducible exact B_r) | (with_reducible refine Bx.alloc ?_ _) | (with_reducible refine Bx.drewN ?_ _) | (with_reducible refine Bx.drew ?_) | refine Bx.far ?_ (by first | assumption | (simp <;> done) | (simp; omega) | omega) _))
  have zp1 : (w.alloc (.cells #[.bool false, .slice none 0 0, .slice none 0 0] 26)).heap.size ≤ p1.heap.size := (by rw [hp]; exact leA)
  clear hp O
  have O := O'
  clear O'
  refine (spec_SplitAny s ⟨#[47]⟩ _ b (by show 1 ≤ _; omega)).mono ?_
  rintro e w1 ⟨⟨A, c, rfl, R⟩, o1⟩
  replace B_r := Bx.old B_r o1
  replace O := Old.trans O o1
  have zw1 := o1.size
  replace R := strs_len R HL.out
  rw [← HL.out]
  obtain ⟨bb, ob, rfl, _, hbs, _, hc⟩ := R.2 (by omega)
  have hx0 : w1.cell? ⟨bb, ob, none⟩ = some (.string sA) := (hc 0 (by omega)).trans (congrArg (fun x => some (Value.string x)) G0.out)
  clear hc R
  have q_r_0 := B_r.cell 0 rfl
  have q_r_1 := B_r.cell 1 rfl
  have q_r_2 := B_r.cell 2 rfl
  have f_r_0 := B_r.frozen 0
  have f_r_1 := B_r.frozen 1
  have f_r_2 := B_r.frozen 2
  have q_r := B_r.lt
  go_wp2_with fail
  refine callsNamed ?_
  intro p2 hp
  clear q_r_0 q_r_1 q_r_2 f_r_0 f_r_1 f_r_2 q_r
  have O' : Old w p2 := (by rw [hp]; exact Below.trans (b := w1) O oldB)
  replace B_r : Bx p2 (w.heap.size) #[.bool false, .slice none 0 0, .slice none 0 0] := (by rw [hp]; repeat' (first | (with_reducible exact B_r) | (with_reducible refine Bx.alloc ?_ _) | (with_reducible refine Bx.drewN ?_ _) | (with_reducible refine Bx.drew ?_) | refine Bx.far ?_ (by first | assumption | (simp <;> done) | (simp; omega) | omega) _))
  have zp2 : w1.heap.size ≤ p2.heap.size := (by rw [hp]; exact leA)
  clear hp O
  have O := O'
  clear O'
  refine (specBig_c sA z true _ HP.out HZ.out HT.out).mono ?_
  rintro e w2 ⟨⟨A1, c1, rfl, r1⟩, o2⟩
  replace B_r := Bx.old B_r o2
  replace O := Old.trans O o2
  have zw2 := o2.size
  replace r1 := Row.more (lo' := p2.heap.size) r1 leA
  have lim_r1 := Row.lim r1
  clear hx0
  have q_r_0 := B_r.cell 0 rfl
  have q_r_1 := B_r.cell 1 rfl
  have q_r_2 := B_r.cell 2 rfl
  have f_r_0 := B_r.frozen 0
  have f_r_1 := B_r.frozen 1
  have f_r_2 := B_r.frozen 2
  have q_r := B_r.lt
  go_wp2_with fail
  refine callsNamed ?_
  intro p3 hp
  clear q_r_0 q_r_1 q_r_2 f_r_0 f_r_1 f_r_2 q_r
  have O' : Old w p3 := (by rw [hp]; exact Below.trans (b := w2) O oldB)
  replace B_r : Bx p3 (w.heap.size) #[.bool false, .slice none 0 0, .slice none 0 0] := (by rw [hp]; repeat' (first | (with_reducible exact B_r) | (with_reducible refine Bx.alloc ?_ _) | (with_reducible refine Bx.drewN ?_ _) | (with_reducible refine Bx.drew ?_) | refine Bx.far ?_ (by first | assumption | (simp <;> done) | (simp; omega) | omega) _))
  replace r1 := Row.at r1 p3 (by rw [hp]; repeat' (first | (with_reducible exact r1) | (with_reducible refine Row.alloc' ?_ _) | (with_reducible refine Row.drewN ?_ _) | (with_reducible refine Row.drew' ?_) | refine Row.far_off ?_ (by assumption) _ | refine Row.far_set ?_ (by first | (simp <;> done) | (simp; omega) | omega) _))
  have B_n : Bx p3 (w2.heap.size) #[.bool (sgnZ z), .slice A1 (len (magZ z)) c1] := (by rw [hp]; repeat' (first | (exact Bx.newAt3 (by first | rfl | (simp <;> done))) | (exact Bx.put2 (Bx.newAt3 (by first | rfl | (simp <;> done))) _ _) | (with_reducible refine Bx.alloc ?_ _) | (with_reducible refine Bx.drewN ?_ _) | (with_reducible refine Bx.drew ?_) | refine Bx.far ?_ (by first | assumption | (simp <;> done) | (simp; omega) | omega) _))
  have lt_n := B_n.lt
  have ne_n_r : ¬ (w2.heap.size = w.heap.size) := by omega
  have en_n_r : ¬ (w.heap.size = w2.heap.size) := by omega
  have B_l : Bx p3 (w2.heap.size + 1) #[.int .i64 1] := (by rw [hp]; repeat' (first | (exact Bx.newAt3 (by first | rfl | (simp <;> done))) | (with_reducible refine Bx.alloc ?_ _) | (with_reducible refine Bx.drewN ?_ _) | (with_reducible refine Bx.drew ?_) | refine Bx.far ?_ (by first | assumption | (simp <;> done) | (simp; omega) | omega) _))
  have lt_l := B_l.lt
  have ne_l_r : ¬ (w2.heap.size + 1 = w.heap.size) := by omega
  have en_l_r : ¬ (w.heap.size = w2.heap.size + 1) := by omega
  have ne_l_n : ¬ (w2.heap.size + 1 = w2.heap.size) := by omega
  have en_l_n : ¬ (w2.heap.size = w2.heap.size + 1) := by omega
  have B_q : Bx p3 (w2.heap.size + 1 + 1) #[.bool (sgnZ z), .slice A1 (len (magZ z)) c1, .slice (some ⟨w2.heap.size + 1, 0, none⟩) (len 1) 1] := (by rw [hp, one_len]; repeat' (first | (exact Bx.newAt3 (by first | rfl | (simp <;> done))) | (exact Bx.put3 (Bx.newAt3 (by first | rfl | (simp <;> done))) _ _ _) | (with_reducible refine Bx.alloc ?_ _) | (with_reducible refine Bx.drewN ?_ _) | (with_reducible refine Bx.drew ?_) | refine Bx.far ?_ (by first | assumption | (simp <;> done) | (simp; omega) | omega) _))
  have lt_q := B_q.lt
  have ne_q_r : ¬ (w2.heap.size + 1 + 1 = w.heap.size) := by omega
  have en_q_r : ¬ (w.heap.size = w2.heap.size + 1 + 1) := by omega
  have ne_q_n : ¬ (w2.heap.size + 1 + 1 = w2.heap.size) := by omega
  have en_q_n : ¬ (w2.heap.size = w2.heap.size + 1 + 1) := by omega
  have ne_q_l : ¬ (w2.heap.size + 1 + 1 = w2.heap.size + 1) := by omega
  have en_q_l : ¬ (w2.heap.size + 1 = w2.heap.size + 1 + 1) := by omega
  have zp3 : w2.heap.size ≤ p3.heap.size := (by rw [hp]; exact leA)
  clear hp O
  have O := O'
  clear O'
  have rl := one_box B_l (lo := w2.heap.size) (by omega)
  refine (spec_FormatRat (sgnZ z) A1 (len (magZ z)) c1 _ (digI (magZ z)) (some ⟨w2.heap.size + 1, 0, none⟩) (len 1) 1 _ (digI 1) _ r1 rl (by omega) (by omega)).mono ?_
  rintro e w3 ⟨he, o3⟩
  replace B_r := Bx.old B_r o3
  replace B_n := Bx.old B_n o3
  replace B_l := Bx.old B_l o3
  replace B_q := Bx.old B_q o3
  replace r1 := Row.below r1 o3 (Nat.le_refl _)
  replace rl := Row.below rl o3 (Nat.le_refl _)
  replace O := Old.trans O o3
  have zw3 := o3.size
  rw [show rFormatRat (sgnZ z) (len (magZ z)) (digI (magZ z)) (len 1) (digI 1) = ByteArray.empty from if_neg K3.out] at he
  subst he
  have q_r_0 := B_r.cell 0 rfl
  have q_r_1 := B_r.cell 1 rfl
  have q_r_2 := B_r.cell 2 rfl
  have f_r_0 := B_r.frozen 0
  have f_r_1 := B_r.frozen 1
  have f_r_2 := B_r.frozen 2
  have q_r := B_r.lt
  have q_n_0 := B_n.cell 0 rfl
  have q_n_1 := B_n.cell 1 rfl
  have f_n_0 := B_n.frozen 0
  have f_n_1 := B_n.frozen 1
  have q_n := B_n.lt
  have q_l_0 := B_l.cell 0 rfl
  have f_l_0 := B_l.frozen 0
  have q_l := B_l.lt
  have q_q_0 := B_q.cell 0 rfl
  have q_q_1 := B_q.cell 1 rfl
  have q_q_2 := B_q.cell 2 rfl
  have f_q_0 := B_q.frozen 0
  have f_q_1 := B_q.frozen 1
  have f_q_2 := B_q.frozen 2
  have q_q := B_q.lt
  go_wp2
  refine bodyPost_ret (v := .tuple #[.agg #[.bool false, .slice none 0 0, .slice none 0 0], .bool false]) (by simp [results, Tryz.results5, go_sem, q_r_0, q_r_1, q_r_2]) rfl ⟨RetRB.zero rfl, Below.trans (b := w3) O oldB⟩
set_option maxRecDepth 100000 in
set_option maxHeartbeats 8000000 in
theorem spec_ParseRat_one_no4 (s : ByteArray) (z : Int) (w : World) (b : s.size ≤ 1048576) (sA : ByteArray) (b1 : Bool) (hsp : rSplitAny s ⟨#[47]⟩ = [sA]) (hz : zParseBigInt sA = z) (ht : rParseBigInt1 sA = b1) (k1 : b1 = true) (k3 : okR (sgnZ z) (len (magZ z)) (digI (magZ z)) (len 1) (digI 1)) (k4 : ¬ txQ z 1 = s) (k5 : ¬ (txQ z 1).size = 0) :
    Calls Tryz.prog 5 #[.string s] w fun e w' => RetRB e w' w.heap.size (0, 0) false ∧ Old w w' := by
  subst k1
  have hlz : len (magZ z) ≤ 60 := by rw [← hz]; exact zParseBigInt_len _
  have HZ := Lib.hid hz
  have HT := Lib.hid ht
  clear hz ht
  have hld : len 1 ≤ 60 := by rw [one_len]; omega
  have HP : Hid (sA.size ≤ maxLen) := Lib.hid (by have := Nat.le_trans (piecesQ (s := s) (y := ⟨#[47]⟩) (p := sA) (by rw [hsp]; simp)) b; unfold maxLen; omega)
  have hL : 1 = (rSplitAny s ⟨#[47]⟩).length := by rw [hsp]; rfl
  have HL := Lib.hid hL
  have G0 : Hid ((rSplitAny s ⟨#[47]⟩).getD 0 ByteArray.empty = sA) := Lib.hid (by rw [hsp]; rfl)
  clear hsp hL
  have K3 := Lib.hid k3
  clear k3
  have hs3 := textQ_neq k4
  clear k4
  have hem := text_ne k5
  clear k5
  have O : Old w (w.alloc (.cells #[.bool false, .slice none 0 0, .slice none 0 0] 26)) := oldB
  have B_r : Bx (w.alloc (.cells #[.bool false, .slice none 0 0, .slice none 0 0] 26)) (w.heap.size) #[.bool false, .slice none 0 0, .slice none 0 0] := by have h := (Bx.new w #[.bool false, .slice none 0 0, .slice none 0 0] 26); simpa using h
  have ze : w.heap.size + 1 ≤ (w.alloc (.cells #[.bool false, .slice none 0 0, .slice none 0 0] 26)).heap.size := (by simp)
  go_enter Tryz.func5, Tryz.ntmps5
  go_wp2_with fail
  refine callsNamed ?_
  intro p1 hp
  have O' : Old w p1 := (by rw [hp]; exact Below.trans (b := (w.alloc (.cells #[.bool false, .slice none 0 0, .slice none 0 0] 26))) O oldB)
  replace B_r : Bx p1 (w.heap.size) #[.bool false, .slice none 0 0, .slice none 0 0] := (by rw [hp]; repeat' (first | (with_reducible exact B_r) | (with_reducible refine Bx.alloc ?_ _) | (with_reducible refine Bx.drewN ?_ _) | (with_reducible refine Bx.drew ?_) | refine Bx.far ?_ (by first | assumption | (simp <;> done) | (simp; omega) | omega) _))
  have zp1 : (w.alloc (.cells #[.bool false, .slice none 0 0, .slice none 0 0] 26)).heap.size ≤ p1.heap.size := (by rw [hp]; exact leA)
  clear hp O
  have O := O'
  clear O'
  refine (spec_SplitAny s ⟨#[47]⟩ _ b (by show 1 ≤ _; omega)).mono ?_
  rintro e w1 ⟨⟨A, c, rfl, R⟩, o1⟩
  replace B_r := Bx.old B_r o1
  replace O := Old.trans O o1
  have zw1 := o1.size
  replace R := strs_len R HL.out
  rw [← HL.out]
  obtain ⟨bb, ob, rfl, _, hbs, _, hc⟩ := R.2 (by omega)
  have hx0 : w1.cell? ⟨bb, ob, none⟩ = some (.string sA) := (hc 0 (by omega)).trans (congrArg (fun x => some (Value.string x)) G0.out)
  clear hc R
  have q_r_0 := B_r.cell 0 rfl
  have q_r_1 := B_r.cell 1 rfl
  have q_r_2 := B_r.cell 2 rfl
  have f_r_0 := B_r.frozen 0
  have f_r_1 := B_r.frozen 1
  have f_r_2 := B_r.frozen 2
  have q_r := B_r.lt
  go_wp2_with fail
  refine callsNamed ?_
  intro p2 hp
  clear q_r_0 q_r_1 q_r_2 f_r_0 f_r_1 f_r_2 q_r
  have O' : Old w p2 := (by rw [hp]; exact Below.trans (b := w1) O oldB)
  replace B_r : Bx p2 (w.heap.size) #[.bool false, .slice none 0 0, .slice none 0 0] := (by rw [hp]; repeat' (first | (with_reducible exact B_r) | (with_reducible refine Bx.alloc ?_ _) | (with_reducible refine Bx.drewN ?_ _) | (with_reducible refine Bx.drew ?_) | refine Bx.far ?_ (by first | assumption | (simp <;> done) | (simp; omega) | omega) _))
  have zp2 : w1.heap.size ≤ p2.heap.size := (by rw [hp]; exact leA)
  clear hp O
  have O := O'
  clear O'
  refine (specBig_c sA z true _ HP.out HZ.out HT.out).mono ?_
  rintro e w2 ⟨⟨A1, c1, rfl, r1⟩, o2⟩
  replace B_r := Bx.old B_r o2
  replace O := Old.trans O o2
  have zw2 := o2.size
  replace r1 := Row.more (lo' := p2.heap.size) r1 leA
  have lim_r1 := Row.lim r1
  clear hx0
  have q_r_0 := B_r.cell 0 rfl
  have q_r_1 := B_r.cell 1 rfl
  have q_r_2 := B_r.cell 2 rfl
  have f_r_0 := B_r.frozen 0
  have f_r_1 := B_r.frozen 1
  have f_r_2 := B_r.frozen 2
  have q_r := B_r.lt
  go_wp2_with fail
  refine callsNamed ?_
  intro p3 hp
  clear q_r_0 q_r_1 q_r_2 f_r_0 f_r_1 f_r_2 q_r
  have O' : Old w p3 := (by rw [hp]; exact Below.trans (b := w2) O oldB)
  replace B_r : Bx p3 (w.heap.size) #[.bool false, .slice none 0 0, .slice none 0 0] := (by rw [hp]; repeat' (first | (with_reducible exact B_r) | (with_reducible refine Bx.alloc ?_ _) | (with_reducible refine Bx.drewN ?_ _) | (with_reducible refine Bx.drew ?_) | refine Bx.far ?_ (by first | assumption | (simp <;> done) | (simp; omega) | omega) _))
  replace r1 := Row.at r1 p3 (by rw [hp]; repeat' (first | (with_reducible exact r1) | (with_reducible refine Row.alloc' ?_ _) | (with_reducible refine Row.drewN ?_ _) | (with_reducible refine Row.drew' ?_) | refine Row.far_off ?_ (by assumption) _ | refine Row.far_set ?_ (by first | (simp <;> done) | (simp; omega) | omega) _))
  have B_n : Bx p3 (w2.heap.size) #[.bool (sgnZ z), .slice A1 (len (magZ z)) c1] := (by rw [hp]; repeat' (first | (exact Bx.newAt3 (by first | rfl | (simp <;> done))) | (exact Bx.put2 (Bx.newAt3 (by first | rfl | (simp <;> done))) _ _) | (with_reducible refine Bx.alloc ?_ _) | (with_reducible refine Bx.drewN ?_ _) | (with_reducible refine Bx.drew ?_) | refine Bx.far ?_ (by first | assumption | (simp <;> done) | (simp; omega) | omega) _))
  have lt_n := B_n.lt
  have ne_n_r : ¬ (w2.heap.size = w.heap.size) := by omega
  have en_n_r : ¬ (w.heap.size = w2.heap.size) := by omega
  have B_l : Bx p3 (w2.heap.size + 1) #[.int .i64 1] := (by rw [hp]; repeat' (first | (exact Bx.newAt3 (by first | rfl | (simp <;> done))) | (with_reducible refine Bx.alloc ?_ _) | (with_reducible refine Bx.drewN ?_ _) | (with_reducible refine Bx.drew ?_) | refine Bx.far ?_ (by first | assumption | (simp <;> done) | (simp; omega) | omega) _))
  have lt_l := B_l.lt
  have ne_l_r : ¬ (w2.heap.size + 1 = w.heap.size) := by omega
  have en_l_r : ¬ (w.heap.size = w2.heap.size + 1) := by omega
  have ne_l_n : ¬ (w2.heap.size + 1 = w2.heap.size) := by omega
  have en_l_n : ¬ (w2.heap.size = w2.heap.size + 1) := by omega
  have B_q : Bx p3 (w2.heap.size + 1 + 1) #[.bool (sgnZ z), .slice A1 (len (magZ z)) c1, .slice (some ⟨w2.heap.size + 1, 0, none⟩) (len 1) 1] := (by rw [hp, one_len]; repeat' (first | (exact Bx.newAt3 (by first | rfl | (simp <;> done))) | (exact Bx.put3 (Bx.newAt3 (by first | rfl | (simp <;> done))) _ _ _) | (with_reducible refine Bx.alloc ?_ _) | (with_reducible refine Bx.drewN ?_ _) | (with_reducible refine Bx.drew ?_) | refine Bx.far ?_ (by first | assumption | (simp <;> done) | (simp; omega) | omega) _))
  have lt_q := B_q.lt
  have ne_q_r : ¬ (w2.heap.size + 1 + 1 = w.heap.size) := by omega
  have en_q_r : ¬ (w.heap.size = w2.heap.size + 1 + 1) := by omega
  have ne_q_n : ¬ (w2.heap.size + 1 + 1 = w2.heap.size) := by omega
  have en_q_n : ¬ (w2.heap.size = w2.heap.size + 1 + 1) := by omega
  have ne_q_l : ¬ (w2.heap.size + 1 + 1 = w2.heap.size + 1) := by omega
  have en_q_l : ¬ (w2.heap.size + 1 = w2.heap.size + 1 + 1) := by omega
  have zp3 : w2.heap.size ≤ p3.heap.size := (by rw [hp]; exact leA)
  clear hp O
  have O := O'
  clear O'
  have rl := one_box B_l (lo := w2.heap.size) (by omega)
  refine (spec_FormatRat (sgnZ z) A1 (len (magZ z)) c1 _ (digI (magZ z)) (some ⟨w2.heap.size + 1, 0, none⟩) (len 1) 1 _ (digI 1) _ r1 rl (by omega) (by omega)).mono ?_
  rintro e w3 ⟨he, o3⟩
  replace B_r := Bx.old B_r o3
  replace B_n := Bx.old B_n o3
  replace B_l := Bx.old B_l o3
  replace B_q := Bx.old B_q o3
  replace r1 := Row.below r1 o3 (Nat.le_refl _)
  replace rl := Row.below rl o3 (Nat.le_refl _)
  replace O := Old.trans O o3
  have zw3 := o3.size
  rw [show rFormatRat (sgnZ z) (len (magZ z)) (digI (magZ z)) (len 1) (digI 1) = txQ z 1 from if_pos K3.out] at he
  subst he
  have q_r_0 := B_r.cell 0 rfl
  have q_r_1 := B_r.cell 1 rfl
  have q_r_2 := B_r.cell 2 rfl
  have f_r_0 := B_r.frozen 0
  have f_r_1 := B_r.frozen 1
  have f_r_2 := B_r.frozen 2
  have q_r := B_r.lt
  have q_n_0 := B_n.cell 0 rfl
  have q_n_1 := B_n.cell 1 rfl
  have f_n_0 := B_n.frozen 0
  have f_n_1 := B_n.frozen 1
  have q_n := B_n.lt
  have q_l_0 := B_l.cell 0 rfl
  have f_l_0 := B_l.frozen 0
  have q_l := B_l.lt
  have q_q_0 := B_q.cell 0 rfl
  have q_q_1 := B_q.cell 1 rfl
  have q_q_2 := B_q.cell 2 rfl
  have f_q_0 := B_q.frozen 0
  have f_q_1 := B_q.frozen 1
  have f_q_2 := B_q.frozen 2
  have q_q := B_q.lt
  go_wp2_with fail
  refine callsNamed ?_
  intro p4 hp
  clear q_r_0 q_r_1 q_r_2 f_r_0 f_r_1 f_r_2 q_r q_n_0 q_n_1 f_n_0 f_n_1 q_n q_l_0 f_l_0 q_l q_q_0 q_q_1 q_q_2 f_q_0 f_q_1 f_q_2 q_q
  have O' : Old w p4 := (by rw [hp]; exact Below.trans (b := w3) O oldB)
  replace B_r : Bx p4 (w.heap.size) #[.bool false, .slice none 0 0, .slice none 0 0] := (by rw [hp]; repeat' (first | (with_reducible exact B_r) | (with_reducible refine Bx.alloc ?_ _) | (with_reducible refine Bx.drewN ?_ _) | (with_reducible refine Bx.drew ?_) | refine Bx.far ?_ (by first | assumption | (simp <;> done) | (simp; omega) | omega) _))
  replace B_n : Bx p4 (w2.heap.size) #[.bool (sgnZ z), .slice A1 (len (magZ z)) c1] := (by rw [hp]; repeat' (first | (with_reducible exact B_n) | (with_reducible refine Bx.alloc ?_ _) | (with_reducible refine Bx.drewN ?_ _) | (with_reducible refine Bx.drew ?_) | refine Bx.far ?_ (by first | assumption | (simp <;> done) | (simp; omega) | omega) _))
  replace B_l : Bx p4 (w2.heap.size + 1) #[.int .i64 1] := (by rw [hp]; repeat' (first | (with_reducible exact B_l) | (with_reducible refine Bx.alloc ?_ _) | (with_reducible refine Bx.drewN ?_ _) | (with_reducible refine Bx.drew ?_) | refine Bx.far ?_ (by first | assumption | (simp <;> done) | (simp; omega) | omega) _))
  replace B_q : Bx p4 (w2.heap.size + 1 + 1) #[.bool (sgnZ z), .slice A1 (len (magZ z)) c1, .slice (some ⟨w2.heap.size + 1, 0, none⟩) (len 1) 1] := (by rw [hp]; repeat' (first | (with_reducible exact B_q) | (with_reducible refine Bx.alloc ?_ _) | (with_reducible refine Bx.drewN ?_ _) | (with_reducible refine Bx.drew ?_) | refine Bx.far ?_ (by first | assumption | (simp <;> done) | (simp; omega) | omega) _))
  replace r1 := Row.at r1 p4 (by rw [hp]; repeat' (first | (with_reducible exact r1) | (with_reducible refine Row.alloc' ?_ _) | (with_reducible refine Row.drewN ?_ _) | (with_reducible refine Row.drew' ?_) | refine Row.far_off ?_ (by assumption) _ | refine Row.far_set ?_ (by first | (simp <;> done) | (simp; omega) | omega) _))
  replace rl := Row.at rl p4 (by rw [hp]; repeat' (first | (with_reducible exact rl) | (with_reducible refine Row.alloc' ?_ _) | (with_reducible refine Row.drewN ?_ _) | (with_reducible refine Row.drew' ?_) | refine Row.far_off ?_ (by assumption) _ | refine Row.far_set ?_ (by first | (simp <;> done) | (simp; omega) | omega) _))
  have zp4 : w3.heap.size ≤ p4.heap.size := (by rw [hp]; exact leA)
  clear hp O
  have O := O'
  clear O'
  refine (spec_FormatRat (sgnZ z) A1 (len (magZ z)) c1 _ (digI (magZ z)) (some ⟨w2.heap.size + 1, 0, none⟩) (len 1) 1 _ (digI 1) _ r1 rl (by omega) (by omega)).mono ?_
  rintro e w4 ⟨he, o4⟩
  replace B_r := Bx.old B_r o4
  replace B_n := Bx.old B_n o4
  replace B_l := Bx.old B_l o4
  replace B_q := Bx.old B_q o4
  replace r1 := Row.below r1 o4 (Nat.le_refl _)
  replace rl := Row.below rl o4 (Nat.le_refl _)
  replace O := Old.trans O o4
  have zw4 := o4.size
  rw [show rFormatRat (sgnZ z) (len (magZ z)) (digI (magZ z)) (len 1) (digI 1) = txQ z 1 from if_pos K3.out] at he
  subst he
  have q_r_0 := B_r.cell 0 rfl
  have q_r_1 := B_r.cell 1 rfl
  have q_r_2 := B_r.cell 2 rfl
  have f_r_0 := B_r.frozen 0
  have f_r_1 := B_r.frozen 1
  have f_r_2 := B_r.frozen 2
  have q_r := B_r.lt
  have q_n_0 := B_n.cell 0 rfl
  have q_n_1 := B_n.cell 1 rfl
  have f_n_0 := B_n.frozen 0
  have f_n_1 := B_n.frozen 1
  have q_n := B_n.lt
  have q_l_0 := B_l.cell 0 rfl
  have f_l_0 := B_l.frozen 0
  have q_l := B_l.lt
  have q_q_0 := B_q.cell 0 rfl
  have q_q_1 := B_q.cell 1 rfl
  have q_q_2 := B_q.cell 2 rfl
  have f_q_0 := B_q.frozen 0
  have f_q_1 := B_q.frozen 1
  have f_q_2 := B_q.frozen 2
  have q_q := B_q.lt
  go_wp2
  refine bodyPost_ret (v := .tuple #[.agg #[.bool false, .slice none 0 0, .slice none 0 0], .bool false]) (by simp [results, Tryz.results5, go_sem, q_r_0, q_r_1, q_r_2]) rfl ⟨RetRB.zero rfl, Below.trans (b := w4) O oldB⟩
set_option maxRecDepth 100000 in
set_option maxHeartbeats 8000000 in
theorem spec_ParseRat_one_yes (s : ByteArray) (z : Int) (w : World) (b : s.size ≤ 1048576) (sA : ByteArray) (b1 : Bool) (hsp : rSplitAny s ⟨#[47]⟩ = [sA]) (hz : zParseBigInt sA = z) (ht : rParseBigInt1 sA = b1) (k1 : b1 = true) (k3 : okR (sgnZ z) (len (magZ z)) (digI (magZ z)) (len 1) (digI 1)) (k4 : txQ z 1 = s) (k5 : ¬ s.size = 0) :
    Calls Tryz.prog 5 #[.string s] w fun e w' => RetRB e w' w.heap.size (z, 1) true ∧ Old w w' := by
  subst k1
  have hlz : len (magZ z) ≤ 60 := by rw [← hz]; exact zParseBigInt_len _
  have HZ := Lib.hid hz
  have HT := Lib.hid ht
  clear hz ht
  have hld : len 1 ≤ 60 := by rw [one_len]; omega
  have HP : Hid (sA.size ≤ maxLen) := Lib.hid (by have := Nat.le_trans (piecesQ (s := s) (y := ⟨#[47]⟩) (p := sA) (by rw [hsp]; simp)) b; unfold maxLen; omega)
  have hL : 1 = (rSplitAny s ⟨#[47]⟩).length := by rw [hsp]; rfl
  have HL := Lib.hid hL
  have G0 : Hid ((rSplitAny s ⟨#[47]⟩).getD 0 ByteArray.empty = sA) := Lib.hid (by rw [hsp]; rfl)
  clear hsp hL
  have K3 := Lib.hid k3
  clear k3
  have K4 := Lib.hid k4
  clear k4
  have hem := text_ne k5
  clear k5
  have O : Old w (w.alloc (.cells #[.bool false, .slice none 0 0, .slice none 0 0] 26)) := oldB
  have B_r : Bx (w.alloc (.cells #[.bool false, .slice none 0 0, .slice none 0 0] 26)) (w.heap.size) #[.bool false, .slice none 0 0, .slice none 0 0] := by have h := (Bx.new w #[.bool false, .slice none 0 0, .slice none 0 0] 26); simpa using h
  have ze : w.heap.size + 1 ≤ (w.alloc (.cells #[.bool false, .slice none 0 0, .slice none 0 0] 26)).heap.size := (by simp)
  go_enter Tryz.func5, Tryz.ntmps5
  go_wp2_with fail
  refine callsNamed ?_
  intro p1 hp
  have O' : Old w p1 := (by rw [hp]; exact Below.trans (b := (w.alloc (.cells #[.bool false, .slice none 0 0, .slice none 0 0] 26))) O oldB)
  replace B_r : Bx p1 (w.heap.size) #[.bool false, .slice none 0 0, .slice none 0 0] := (by rw [hp]; repeat' (first | (with_reducible exact B_r) | (with_reducible refine Bx.alloc ?_ _) | (with_reducible refine Bx.drewN ?_ _) | (with_reducible refine Bx.drew ?_) | refine Bx.far ?_ (by first | assumption | (simp <;> done) | (simp; omega) | omega) _))
  have zp1 : (w.alloc (.cells #[.bool false, .slice none 0 0, .slice none 0 0] 26)).heap.size ≤ p1.heap.size := (by rw [hp]; exact leA)
  clear hp O
  have O := O'
  clear O'
  refine (spec_SplitAny s ⟨#[47]⟩ _ b (by show 1 ≤ _; omega)).mono ?_
  rintro e w1 ⟨⟨A, c, rfl, R⟩, o1⟩
  replace B_r := Bx.old B_r o1
  replace O := Old.trans O o1
  have zw1 := o1.size
  replace R := strs_len R HL.out
  rw [← HL.out]
  obtain ⟨bb, ob, rfl, _, hbs, _, hc⟩ := R.2 (by omega)
  have hx0 : w1.cell? ⟨bb, ob, none⟩ = some (.string sA) := (hc 0 (by omega)).trans (congrArg (fun x => some (Value.string x)) G0.out)
  clear hc R
  have q_r_0 := B_r.cell 0 rfl
  have q_r_1 := B_r.cell 1 rfl
  have q_r_2 := B_r.cell 2 rfl
  have f_r_0 := B_r.frozen 0
  have f_r_1 := B_r.frozen 1
  have f_r_2 := B_r.frozen 2
  have q_r := B_r.lt
  go_wp2_with fail
  refine callsNamed ?_
  intro p2 hp
  clear q_r_0 q_r_1 q_r_2 f_r_0 f_r_1 f_r_2 q_r
  have O' : Old w p2 := (by rw [hp]; exact Below.trans (b := w1) O oldB)
  replace B_r : Bx p2 (w.heap.size) #[.bool false, .slice none 0 0, .slice none 0 0] := (by rw [hp]; repeat' (first | (with_reducible exact B_r) | (with_reducible refine Bx.alloc ?_ _) | (with_reducible refine Bx.drewN ?_ _) | (with_reducible refine Bx.drew ?_) | refine Bx.far ?_ (by first | assumption | (simp <;> done) | (simp; omega) | omega) _))
  have zp2 : w1.heap.size ≤ p2.heap.size := (by rw [hp]; exact leA)
  clear hp O
  have O := O'
  clear O'
  refine (specBig_c sA z true _ HP.out HZ.out HT.out).mono ?_
  rintro e w2 ⟨⟨A1, c1, rfl, r1⟩, o2⟩
  replace B_r := Bx.old B_r o2
  replace O := Old.trans O o2
  have zw2 := o2.size
  replace r1 := Row.more (lo' := p2.heap.size) r1 leA
  have lim_r1 := Row.lim r1
  clear hx0
  have q_r_0 := B_r.cell 0 rfl
  have q_r_1 := B_r.cell 1 rfl
  have q_r_2 := B_r.cell 2 rfl
  have f_r_0 := B_r.frozen 0
  have f_r_1 := B_r.frozen 1
  have f_r_2 := B_r.frozen 2
  have q_r := B_r.lt
  go_wp2_with fail
  refine callsNamed ?_
  intro p3 hp
  clear q_r_0 q_r_1 q_r_2 f_r_0 f_r_1 f_r_2 q_r
  have O' : Old w p3 := (by rw [hp]; exact Below.trans (b := w2) O oldB)
  replace B_r : Bx p3 (w.heap.size) #[.bool false, .slice none 0 0, .slice none 0 0] := (by rw [hp]; repeat' (first | (with_reducible exact B_r) | (with_reducible refine Bx.alloc ?_ _) | (with_reducible refine Bx.drewN ?_ _) | (with_reducible refine Bx.drew ?_) | refine Bx.far ?_ (by first | assumption | (simp <;> done) | (simp; omega) | omega) _))
  replace r1 := Row.at r1 p3 (by rw [hp]; repeat' (first | (with_reducible exact r1) | (with_reducible refine Row.alloc' ?_ _) | (with_reducible refine Row.drewN ?_ _) | (with_reducible refine Row.drew' ?_) | refine Row.far_off ?_ (by assumption) _ | refine Row.far_set ?_ (by first | (simp <;> done) | (simp; omega) | omega) _))
  have B_n : Bx p3 (w2.heap.size) #[.bool (sgnZ z), .slice A1 (len (magZ z)) c1] := (by rw [hp]; repeat' (first | (exact Bx.newAt3 (by first | rfl | (simp <;> done))) | (exact Bx.put2 (Bx.newAt3 (by first | rfl | (simp <;> done))) _ _) | (with_reducible refine Bx.alloc ?_ _) | (with_reducible refine Bx.drewN ?_ _) | (with_reducible refine Bx.drew ?_) | refine Bx.far ?_ (by first | assumption | (simp <;> done) | (simp; omega) | omega) _))
  have lt_n := B_n.lt
  have ne_n_r : ¬ (w2.heap.size = w.heap.size) := by omega
  have en_n_r : ¬ (w.heap.size = w2.heap.size) := by omega
  have B_l : Bx p3 (w2.heap.size + 1) #[.int .i64 1] := (by rw [hp]; repeat' (first | (exact Bx.newAt3 (by first | rfl | (simp <;> done))) | (with_reducible refine Bx.alloc ?_ _) | (with_reducible refine Bx.drewN ?_ _) | (with_reducible refine Bx.drew ?_) | refine Bx.far ?_ (by first | assumption | (simp <;> done) | (simp; omega) | omega) _))
  have lt_l := B_l.lt
  have ne_l_r : ¬ (w2.heap.size + 1 = w.heap.size) := by omega
  have en_l_r : ¬ (w.heap.size = w2.heap.size + 1) := by omega
  have ne_l_n : ¬ (w2.heap.size + 1 = w2.heap.size) := by omega
  have en_l_n : ¬ (w2.heap.size = w2.heap.size + 1) := by omega
  have B_q : Bx p3 (w2.heap.size + 1 + 1) #[.bool (sgnZ z), .slice A1 (len (magZ z)) c1, .slice (some ⟨w2.heap.size + 1, 0, none⟩) (len 1) 1] := (by rw [hp, one_len]; repeat' (first | (exact Bx.newAt3 (by first | rfl | (simp <;> done))) | (exact Bx.put3 (Bx.newAt3 (by first | rfl | (simp <;> done))) _ _ _) | (with_reducible refine Bx.alloc ?_ _) | (with_reducible refine Bx.drewN ?_ _) | (with_reducible refine Bx.drew ?_) | refine Bx.far ?_ (by first | assumption | (simp <;> done) | (simp; omega) | omega) _))
  have lt_q := B_q.lt
  have ne_q_r : ¬ (w2.heap.size + 1 + 1 = w.heap.size) := by omega
  have en_q_r : ¬ (w.heap.size = w2.heap.size + 1 + 1) := by omega
  have ne_q_n : ¬ (w2.heap.size + 1 + 1 = w2.heap.size) := by omega
  have en_q_n : ¬ (w2.heap.size = w2.heap.size + 1 + 1) := by omega
  have ne_q_l : ¬ (w2.heap.size + 1 + 1 = w2.heap.size + 1) := by omega
  have en_q_l : ¬ (w2.heap.size + 1 = w2.heap.size + 1 + 1) := by omega
  have zp3 : w2.heap.size ≤ p3.heap.size := (by rw [hp]; exact leA)
  clear hp O
  have O := O'
  clear O'
  have rl := one_box B_l (lo := w2.heap.size) (by omega)
  refine (spec_FormatRat (sgnZ z) A1 (len (magZ z)) c1 _ (digI (magZ z)) (some ⟨w2.heap.size + 1, 0, none⟩) (len 1) 1 _ (digI 1) _ r1 rl (by omega) (by omega)).mono ?_
  rintro e w3 ⟨he, o3⟩
  replace B_r := Bx.old B_r o3
  replace B_n := Bx.old B_n o3
  replace B_l := Bx.old B_l o3
  replace B_q := Bx.old B_q o3
  replace r1 := Row.below r1 o3 (Nat.le_refl _)
  replace rl := Row.below rl o3 (Nat.le_refl _)
  replace O := Old.trans O o3
  have zw3 := o3.size
  rw [show rFormatRat (sgnZ z) (len (magZ z)) (digI (magZ z)) (len 1) (digI 1) = txQ z 1 from if_pos K3.out, K4.out] at he
  subst he
  have q_r_0 := B_r.cell 0 rfl
  have q_r_1 := B_r.cell 1 rfl
  have q_r_2 := B_r.cell 2 rfl
  have f_r_0 := B_r.frozen 0
  have f_r_1 := B_r.frozen 1
  have f_r_2 := B_r.frozen 2
  have q_r := B_r.lt
  have q_n_0 := B_n.cell 0 rfl
  have q_n_1 := B_n.cell 1 rfl
  have f_n_0 := B_n.frozen 0
  have f_n_1 := B_n.frozen 1
  have q_n := B_n.lt
  have q_l_0 := B_l.cell 0 rfl
  have f_l_0 := B_l.frozen 0
  have q_l := B_l.lt
  have q_q_0 := B_q.cell 0 rfl
  have q_q_1 := B_q.cell 1 rfl
  have q_q_2 := B_q.cell 2 rfl
  have f_q_0 := B_q.frozen 0
  have f_q_1 := B_q.frozen 1
  have f_q_2 := B_q.frozen 2
  have q_q := B_q.lt
  go_wp2_with fail
  refine callsNamed ?_
  intro p4 hp
  clear q_r_0 q_r_1 q_r_2 f_r_0 f_r_1 f_r_2 q_r q_n_0 q_n_1 f_n_0 f_n_1 q_n q_l_0 f_l_0 q_l q_q_0 q_q_1 q_q_2 f_q_0 f_q_1 f_q_2 q_q
  have O' : Old w p4 := (by rw [hp]; exact Below.trans (b := w3) O oldB)
  replace B_r : Bx p4 (w.heap.size) #[.bool false, .slice none 0 0, .slice none 0 0] := (by rw [hp]; repeat' (first | (with_reducible exact B_r) | (with_reducible refine Bx.alloc ?_ _) | (with_reducible refine Bx.drewN ?_ _) | (with_reducible refine Bx.drew ?_) | refine Bx.far ?_ (by first | assumption | (simp <;> done) | (simp; omega) | omega) _))
  replace B_n : Bx p4 (w2.heap.size) #[.bool (sgnZ z), .slice A1 (len (magZ z)) c1] := (by rw [hp]; repeat' (first | (with_reducible exact B_n) | (with_reducible refine Bx.alloc ?_ _) | (with_reducible refine Bx.drewN ?_ _) | (with_reducible refine Bx.drew ?_) | refine Bx.far ?_ (by first | assumption | (simp <;> done) | (simp; omega) | omega) _))
  replace B_l : Bx p4 (w2.heap.size + 1) #[.int .i64 1] := (by rw [hp]; repeat' (first | (with_reducible exact B_l) | (with_reducible refine Bx.alloc ?_ _) | (with_reducible refine Bx.drewN ?_ _) | (with_reducible refine Bx.drew ?_) | refine Bx.far ?_ (by first | assumption | (simp <;> done) | (simp; omega) | omega) _))
  replace B_q : Bx p4 (w2.heap.size + 1 + 1) #[.bool (sgnZ z), .slice A1 (len (magZ z)) c1, .slice (some ⟨w2.heap.size + 1, 0, none⟩) (len 1) 1] := (by rw [hp]; repeat' (first | (with_reducible exact B_q) | (with_reducible refine Bx.alloc ?_ _) | (with_reducible refine Bx.drewN ?_ _) | (with_reducible refine Bx.drew ?_) | refine Bx.far ?_ (by first | assumption | (simp <;> done) | (simp; omega) | omega) _))
  replace r1 := Row.at r1 p4 (by rw [hp]; repeat' (first | (with_reducible exact r1) | (with_reducible refine Row.alloc' ?_ _) | (with_reducible refine Row.drewN ?_ _) | (with_reducible refine Row.drew' ?_) | refine Row.far_off ?_ (by assumption) _ | refine Row.far_set ?_ (by first | (simp <;> done) | (simp; omega) | omega) _))
  replace rl := Row.at rl p4 (by rw [hp]; repeat' (first | (with_reducible exact rl) | (with_reducible refine Row.alloc' ?_ _) | (with_reducible refine Row.drewN ?_ _) | (with_reducible refine Row.drew' ?_) | refine Row.far_off ?_ (by assumption) _ | refine Row.far_set ?_ (by first | (simp <;> done) | (simp; omega) | omega) _))
  have zp4 : w3.heap.size ≤ p4.heap.size := (by rw [hp]; exact leA)
  clear hp O
  have O := O'
  clear O'
  refine (spec_FormatRat (sgnZ z) A1 (len (magZ z)) c1 _ (digI (magZ z)) (some ⟨w2.heap.size + 1, 0, none⟩) (len 1) 1 _ (digI 1) _ r1 rl (by omega) (by omega)).mono ?_
  rintro e w4 ⟨he, o4⟩
  replace B_r := Bx.old B_r o4
  replace B_n := Bx.old B_n o4
  replace B_l := Bx.old B_l o4
  replace B_q := Bx.old B_q o4
  replace r1 := Row.below r1 o4 (Nat.le_refl _)
  replace rl := Row.below rl o4 (Nat.le_refl _)
  replace O := Old.trans O o4
  have zw4 := o4.size
  rw [show rFormatRat (sgnZ z) (len (magZ z)) (digI (magZ z)) (len 1) (digI 1) = txQ z 1 from if_pos K3.out, K4.out] at he
  subst he
  have q_r_0 := B_r.cell 0 rfl
  have q_r_1 := B_r.cell 1 rfl
  have q_r_2 := B_r.cell 2 rfl
  have f_r_0 := B_r.frozen 0
  have f_r_1 := B_r.frozen 1
  have f_r_2 := B_r.frozen 2
  have q_r := B_r.lt
  have q_n_0 := B_n.cell 0 rfl
  have q_n_1 := B_n.cell 1 rfl
  have f_n_0 := B_n.frozen 0
  have f_n_1 := B_n.frozen 1
  have q_n := B_n.lt
  have q_l_0 := B_l.cell 0 rfl
  have f_l_0 := B_l.frozen 0
  have q_l := B_l.lt
  have q_q_0 := B_q.cell 0 rfl
  have q_q_1 := B_q.cell 1 rfl
  have q_q_2 := B_q.cell 2 rfl
  have f_q_0 := B_q.frozen 0
  have f_q_1 := B_q.frozen 1
  have f_q_2 := B_q.frozen 2
  have q_q := B_q.lt
  go_wp2
  refine bodyPost_ret (v := .tuple #[.agg #[.bool (sgnZ z), .slice A1 (len (magZ z)) c1, .slice (some ⟨w2.heap.size + 1, 0, none⟩) (len 1) 1], .bool true]) (by simp [results, Tryz.results5, go_sem, q_r_0, q_r_1, q_r_2]) rfl ⟨⟨z, 1, A1, c1, (some ⟨w2.heap.size + 1, 0, none⟩), 1, rfl, rfl, ?_, ?_, Apart.of lim_r1 rl (by omega)⟩, ?_⟩
  · refine Row.more (lo := p2.heap.size) ?_ leA
    repeat' (first | (with_reducible exact r1) | (with_reducible refine Row.far_set ?_ (by first | (simp <;> done) | (simp; omega) | omega) _))
  · refine Row.more (lo := w2.heap.size) ?_ leA
    repeat' (first | (with_reducible exact rl) | (with_reducible refine Row.far_set ?_ (by first | (simp <;> done) | (simp; omega) | omega) _))
  · exact Below.trans (b := w4) O oldB
set_option maxRecDepth 100000 in
set_option maxHeartbeats 8000000 in
theorem spec_ParseRat_cut_no1 (s : ByteArray) (z : Int) (w : World) (b : s.size ≤ 1048576) (sA sB : ByteArray) (d : Nat) (b1 b2 : Bool) (l : List ByteArray) (hsp : rSplitAny s ⟨#[47]⟩ = sA :: sB :: l) (hz : zParseBigInt sA = z) (ht : rParseBigInt1 sA = b1) (hd : rParseNat sB = d) (hu : rParseNat1 sB = b2) (k1 : b1 = false) :
    Calls Tryz.prog 5 #[.string s] w fun e w' => RetRB e w' w.heap.size (0, 0) false ∧ Old w w' := by
  subst k1
  have hlz : len (magZ z) ≤ 60 := by rw [← hz]; exact zParseBigInt_len _
  have HZ := Lib.hid hz
  have HT := Lib.hid ht
  clear hz ht
  have hld : len d ≤ 60 := by rw [← hd]; exact rParseNat_len _
  have HD := Lib.hid hd
  have HU := Lib.hid hu
  clear hd hu
  have HP : Hid (sA.size ≤ maxLen) := Lib.hid (by have := Nat.le_trans (piecesQ (s := s) (y := ⟨#[47]⟩) (p := sA) (by rw [hsp]; simp)) b; unfold maxLen; omega)
  have HQ : Hid (sB.size ≤ maxLen) := Lib.hid (by have := Nat.le_trans (piecesQ (s := s) (y := ⟨#[47]⟩) (p := sB) (by rw [hsp]; simp)) b; unfold maxLen; omega)
  obtain ⟨L, hL⟩ : ∃ L, L = (rSplitAny s ⟨#[47]⟩).length := ⟨_, rfl⟩
  have hL2 : 2 ≤ L := by rw [hL, hsp]; simp
  have hLm : L ≤ 1048577 := by rw [hL]; have := rSplitAny_len s ⟨#[47]⟩; omega
  have HL := Lib.hid hL
  have G0 : Hid ((rSplitAny s ⟨#[47]⟩).getD 0 ByteArray.empty = sA) := Lib.hid (by rw [hsp]; rfl)
  have G1 : Hid ((rSplitAny s ⟨#[47]⟩).getD 1 ByteArray.empty = sB) := Lib.hid (by rw [hsp]; rfl)
  clear hsp hL
  have O : Old w (w.alloc (.cells #[.bool false, .slice none 0 0, .slice none 0 0] 26)) := oldB
  have B_r : Bx (w.alloc (.cells #[.bool false, .slice none 0 0, .slice none 0 0] 26)) (w.heap.size) #[.bool false, .slice none 0 0, .slice none 0 0] := by have h := (Bx.new w #[.bool false, .slice none 0 0, .slice none 0 0] 26); simpa using h
  have ze : w.heap.size + 1 ≤ (w.alloc (.cells #[.bool false, .slice none 0 0, .slice none 0 0] 26)).heap.size := (by simp)
  go_enter Tryz.func5, Tryz.ntmps5
  go_wp2_with fail
  refine callsNamed ?_
  intro p1 hp
  have O' : Old w p1 := (by rw [hp]; exact Below.trans (b := (w.alloc (.cells #[.bool false, .slice none 0 0, .slice none 0 0] 26))) O oldB)
  replace B_r : Bx p1 (w.heap.size) #[.bool false, .slice none 0 0, .slice none 0 0] := (by rw [hp]; repeat' (first | (with_reducible exact B_r) | (with_reducible refine Bx.alloc ?_ _) | (with_reducible refine Bx.drewN ?_ _) | (with_reducible refine Bx.drew ?_) | refine Bx.far ?_ (by first | assumption | (simp <;> done) | (simp; omega) | omega) _))
  have zp1 : (w.alloc (.cells #[.bool false, .slice none 0 0, .slice none 0 0] 26)).heap.size ≤ p1.heap.size := (by rw [hp]; exact leA)
  clear hp O
  have O := O'
  clear O'
  refine (spec_SplitAny s ⟨#[47]⟩ _ b (by show 1 ≤ _; omega)).mono ?_
  rintro e w1 ⟨⟨A, c, rfl, R⟩, o1⟩
  replace B_r := Bx.old B_r o1
  replace O := Old.trans O o1
  have zw1 := o1.size
  replace R := strs_len R HL.out
  rw [← HL.out]
  obtain ⟨bb, ob, rfl, _, hbs, _, hc⟩ := R.2 (by omega)
  have hx0 : w1.cell? ⟨bb, ob, none⟩ = some (.string sA) := (hc 0 (by omega)).trans (congrArg (fun x => some (Value.string x)) G0.out)
  have HC1 : Hid (w1.cell? ⟨bb, ob + 1, none⟩ = some (.string sB)) := Lib.hid ((hc 1 (by omega)).trans (congrArg (fun x => some (Value.string x)) G1.out))
  clear hc R
  have q_r_0 := B_r.cell 0 rfl
  have q_r_1 := B_r.cell 1 rfl
  have q_r_2 := B_r.cell 2 rfl
  have f_r_0 := B_r.frozen 0
  have f_r_1 := B_r.frozen 1
  have f_r_2 := B_r.frozen 2
  have q_r := B_r.lt
  go_wp2_with fail
  refine callsNamed ?_
  intro p2 hp
  clear q_r_0 q_r_1 q_r_2 f_r_0 f_r_1 f_r_2 q_r
  have O' : Old w p2 := (by rw [hp]; exact Below.trans (b := w1) O oldB)
  replace B_r : Bx p2 (w.heap.size) #[.bool false, .slice none 0 0, .slice none 0 0] := (by rw [hp]; repeat' (first | (with_reducible exact B_r) | (with_reducible refine Bx.alloc ?_ _) | (with_reducible refine Bx.drewN ?_ _) | (with_reducible refine Bx.drew ?_) | refine Bx.far ?_ (by first | assumption | (simp <;> done) | (simp; omega) | omega) _))
  have zp2 : w1.heap.size ≤ p2.heap.size := (by rw [hp]; exact leA)
  have HX1 : Hid (p2.cell? ⟨bb, ob + 1, none⟩ = some (.string sB)) := Lib.hid (by rw [hp]; exact HC1.out)
  clear hp O
  have O := O'
  clear O'
  refine (specBig_c sA z false _ HP.out HZ.out HT.out).mono ?_
  rintro e w2 ⟨⟨A1, c1, rfl, r1⟩, o2⟩
  replace B_r := Bx.old B_r o2
  replace O := Old.trans O o2
  have zw2 := o2.size
  replace r1 := Row.more (lo' := p2.heap.size) r1 leA
  have lim_r1 := Row.lim r1
  clear hx0
  have HX2 := Lib.hid ((o2.cell (p := ⟨bb, ob + 1, none⟩) (Nat.lt_of_lt_of_le hbs zp2)).trans HX1.out)
  have hbs2 : bb < w2.heap.size := by omega
  have q_r_0 := B_r.cell 0 rfl
  have q_r_1 := B_r.cell 1 rfl
  have q_r_2 := B_r.cell 2 rfl
  have f_r_0 := B_r.frozen 0
  have f_r_1 := B_r.frozen 1
  have f_r_2 := B_r.frozen 2
  have q_r := B_r.lt
  go_upto_region 6 with fail
  refine wpNamed ?_
  intro p3 hp
  clear q_r_0 q_r_1 q_r_2 f_r_0 f_r_1 f_r_2 q_r
  have O' : Old w p3 := (by rw [hp]; exact Below.trans (b := w2) O oldB)
  replace B_r : Bx p3 (w.heap.size) #[.bool false, .slice none 0 0, .slice none 0 0] := (by rw [hp]; repeat' (first | (with_reducible exact B_r) | (with_reducible refine Bx.alloc ?_ _) | (with_reducible refine Bx.drewN ?_ _) | (with_reducible refine Bx.drew ?_) | refine Bx.far ?_ (by first | assumption | (simp <;> done) | (simp; omega) | omega) _))
  replace r1 := Row.at r1 p3 (by rw [hp]; repeat' (first | (with_reducible exact r1) | (with_reducible refine Row.alloc' ?_ _) | (with_reducible refine Row.drewN ?_ _) | (with_reducible refine Row.drew' ?_) | refine Row.far_off ?_ (by assumption) _ | refine Row.far_set ?_ (by first | (simp <;> done) | (simp; omega) | omega) _))
  have B_n : Bx p3 (w2.heap.size) #[.bool (sgnZ z), .slice A1 (len (magZ z)) c1] := (by rw [hp]; repeat' (first | (exact Bx.newAt3 (by first | rfl | (simp <;> done))) | (exact Bx.put2 (Bx.newAt3 (by first | rfl | (simp <;> done))) _ _) | (with_reducible refine Bx.alloc ?_ _) | (with_reducible refine Bx.drewN ?_ _) | (with_reducible refine Bx.drew ?_) | refine Bx.far ?_ (by first | assumption | (simp <;> done) | (simp; omega) | omega) _))
  have lt_n := B_n.lt
  have ne_n_r : ¬ (w2.heap.size = w.heap.size) := by omega
  have en_n_r : ¬ (w.heap.size = w2.heap.size) := by omega
  have B_l : Bx p3 (w2.heap.size + 1) #[.int .i64 1] := (by rw [hp]; repeat' (first | (exact Bx.newAt3 (by first | rfl | (simp <;> done))) | (with_reducible refine Bx.alloc ?_ _) | (with_reducible refine Bx.drewN ?_ _) | (with_reducible refine Bx.drew ?_) | refine Bx.far ?_ (by first | assumption | (simp <;> done) | (simp; omega) | omega) _))
  have lt_l := B_l.lt
  have ne_l_r : ¬ (w2.heap.size + 1 = w.heap.size) := by omega
  have en_l_r : ¬ (w.heap.size = w2.heap.size + 1) := by omega
  have ne_l_n : ¬ (w2.heap.size + 1 = w2.heap.size) := by omega
  have en_l_n : ¬ (w2.heap.size = w2.heap.size + 1) := by omega
  have hx1 : p3.cell? ⟨bb, ob + 1, none⟩ = some (.string sB) := (Below.cell (show Old w2 p3 from by rw [hp]; exact oldB) (p := ⟨bb, ob + 1, none⟩) hbs2).trans HX2.out
  have zp3 : w2.heap.size ≤ p3.heap.size := (by rw [hp]; exact leA)
  clear hp O
  have O := O'
  clear O'
  have rl := one_box B_l (lo := w2.heap.size) (by omega)
  have q_r_0 := B_r.cell 0 rfl
  have q_r_1 := B_r.cell 1 rfl
  have q_r_2 := B_r.cell 2 rfl
  have f_r_0 := B_r.frozen 0
  have f_r_1 := B_r.frozen 1
  have f_r_2 := B_r.frozen 2
  have q_r := B_r.lt
  have q_n_0 := B_n.cell 0 rfl
  have q_n_1 := B_n.cell 1 rfl
  have f_n_0 := B_n.frozen 0
  have f_n_1 := B_n.frozen 1
  have q_n := B_n.lt
  have q_l_0 := B_l.cell 0 rfl
  have f_l_0 := B_l.frozen 0
  have q_l := B_l.lt
  go_wp2_with fail
  refine callsNamed ?_
  intro p4 hp
  clear q_r_0 q_r_1 q_r_2 f_r_0 f_r_1 f_r_2 q_r q_n_0 q_n_1 f_n_0 f_n_1 q_n q_l_0 f_l_0 q_l
  have O' : Old w p4 := (by rw [hp]; exact Below.trans (b := p3) O oldB)
  replace B_r : Bx p4 (w.heap.size) #[.bool false, .slice none 0 0, .slice none 0 0] := (by rw [hp]; repeat' (first | (with_reducible exact B_r) | (with_reducible refine Bx.alloc ?_ _) | (with_reducible refine Bx.drewN ?_ _) | (with_reducible refine Bx.drew ?_) | refine Bx.far ?_ (by first | assumption | (simp <;> done) | (simp; omega) | omega) _))
  replace B_n : Bx p4 (w2.heap.size) #[.bool (sgnZ z), .slice A1 (len (magZ z)) c1] := (by rw [hp]; repeat' (first | (with_reducible exact B_n) | (with_reducible refine Bx.alloc ?_ _) | (with_reducible refine Bx.drewN ?_ _) | (with_reducible refine Bx.drew ?_) | refine Bx.far ?_ (by first | assumption | (simp <;> done) | (simp; omega) | omega) _))
  replace B_l : Bx p4 (w2.heap.size + 1) #[.int .i64 1] := (by rw [hp]; repeat' (first | (with_reducible exact B_l) | (with_reducible refine Bx.alloc ?_ _) | (with_reducible refine Bx.drewN ?_ _) | (with_reducible refine Bx.drew ?_) | refine Bx.far ?_ (by first | assumption | (simp <;> done) | (simp; omega) | omega) _))
  replace r1 := Row.at r1 p4 (by rw [hp]; repeat' (first | (with_reducible exact r1) | (with_reducible refine Row.alloc' ?_ _) | (with_reducible refine Row.drewN ?_ _) | (with_reducible refine Row.drew' ?_) | refine Row.far_off ?_ (by assumption) _ | refine Row.far_set ?_ (by first | (simp <;> done) | (simp; omega) | omega) _))
  replace rl := Row.at rl p4 (by rw [hp]; repeat' (first | (with_reducible exact rl) | (with_reducible refine Row.alloc' ?_ _) | (with_reducible refine Row.drewN ?_ _) | (with_reducible refine Row.drew' ?_) | refine Row.far_off ?_ (by assumption) _ | refine Row.far_set ?_ (by first | (simp <;> done) | (simp; omega) | omega) _))
  have zp4 : p3.heap.size ≤ p4.heap.size := (by rw [hp]; exact leA)
  clear hp O
  have O := O'
  clear O'
  refine (specNat_c sB d b2 _ HQ.out HD.out HU.out).mono ?_
  rintro e w4 ⟨⟨A2, c2, rfl, r2⟩, o4⟩
  replace B_r := Bx.old B_r o4
  replace B_n := Bx.old B_n o4
  replace B_l := Bx.old B_l o4
  replace r1 := Row.below r1 o4 (Nat.le_refl _)
  replace rl := Row.below rl o4 (Nat.le_refl _)
  replace O := Old.trans O o4
  have zw4 := o4.size
  replace r2 := Row.more (lo' := p4.heap.size) r2 leA
  have lim_r2 := Row.lim r2
  have q_r_0 := B_r.cell 0 rfl
  have q_r_1 := B_r.cell 1 rfl
  have q_r_2 := B_r.cell 2 rfl
  have f_r_0 := B_r.frozen 0
  have f_r_1 := B_r.frozen 1
  have f_r_2 := B_r.frozen 2
  have q_r := B_r.lt
  have q_n_0 := B_n.cell 0 rfl
  have q_n_1 := B_n.cell 1 rfl
  have f_n_0 := B_n.frozen 0
  have f_n_1 := B_n.frozen 1
  have q_n := B_n.lt
  have q_l_0 := B_l.cell 0 rfl
  have f_l_0 := B_l.frozen 0
  have q_l := B_l.lt
  go_upto_region 8 with fail
  refine wpNamed ?_
  intro p5 hp
  clear q_r_0 q_r_1 q_r_2 f_r_0 f_r_1 f_r_2 q_r q_n_0 q_n_1 f_n_0 f_n_1 q_n q_l_0 f_l_0 q_l
  have O' : Old w p5 := (by rw [hp]; exact Below.trans (b := w4) O oldB)
  replace B_r : Bx p5 (w.heap.size) #[.bool false, .slice none 0 0, .slice none 0 0] := (by rw [hp]; repeat' (first | (with_reducible exact B_r) | (with_reducible refine Bx.alloc ?_ _) | (with_reducible refine Bx.drewN ?_ _) | (with_reducible refine Bx.drew ?_) | refine Bx.far ?_ (by first | assumption | (simp <;> done) | (simp; omega) | omega) _))
  replace B_n : Bx p5 (w2.heap.size) #[.bool (sgnZ z), .slice A1 (len (magZ z)) c1] := (by rw [hp]; repeat' (first | (with_reducible exact B_n) | (with_reducible refine Bx.alloc ?_ _) | (with_reducible refine Bx.drewN ?_ _) | (with_reducible refine Bx.drew ?_) | refine Bx.far ?_ (by first | assumption | (simp <;> done) | (simp; omega) | omega) _))
  replace B_l : Bx p5 (w2.heap.size + 1) #[.int .i64 1] := (by rw [hp]; repeat' (first | (with_reducible exact B_l) | (with_reducible refine Bx.alloc ?_ _) | (with_reducible refine Bx.drewN ?_ _) | (with_reducible refine Bx.drew ?_) | refine Bx.far ?_ (by first | assumption | (simp <;> done) | (simp; omega) | omega) _))
  replace r1 := Row.at r1 p5 (by rw [hp]; repeat' (first | (with_reducible exact r1) | (with_reducible refine Row.alloc' ?_ _) | (with_reducible refine Row.drewN ?_ _) | (with_reducible refine Row.drew' ?_) | refine Row.far_off ?_ (by assumption) _ | refine Row.far_set ?_ (by first | (simp <;> done) | (simp; omega) | omega) _))
  replace rl := Row.at rl p5 (by rw [hp]; repeat' (first | (with_reducible exact rl) | (with_reducible refine Row.alloc' ?_ _) | (with_reducible refine Row.drewN ?_ _) | (with_reducible refine Row.drew' ?_) | refine Row.far_off ?_ (by assumption) _ | refine Row.far_set ?_ (by first | (simp <;> done) | (simp; omega) | omega) _))
  replace r2 := Row.at r2 p5 (by rw [hp]; repeat' (first | (with_reducible exact r2) | (with_reducible refine Row.alloc' ?_ _) | (with_reducible refine Row.drewN ?_ _) | (with_reducible refine Row.drew' ?_) | refine Row.far_off ?_ (by assumption) _ | refine Row.far_set ?_ (by first | (simp <;> done) | (simp; omega) | omega) _))
  have B_q : Bx p5 (w4.heap.size) #[.bool (sgnZ z), .slice A1 (len (magZ z)) c1, .slice A2 (len d) c2] := (by rw [hp]; repeat' (first | (exact Bx.newAt3 (by first | rfl | (simp <;> done))) | (exact Bx.put3 (Bx.newAt3 (by first | rfl | (simp <;> done))) _ _ _) | (with_reducible refine Bx.alloc ?_ _) | (with_reducible refine Bx.drewN ?_ _) | (with_reducible refine Bx.drew ?_) | refine Bx.far ?_ (by first | assumption | (simp <;> done) | (simp; omega) | omega) _))
  have lt_q := B_q.lt
  have ne_q_r : ¬ (w4.heap.size = w.heap.size) := by omega
  have en_q_r : ¬ (w.heap.size = w4.heap.size) := by omega
  have ne_q_n : ¬ (w4.heap.size = w2.heap.size) := by omega
  have en_q_n : ¬ (w2.heap.size = w4.heap.size) := by omega
  have ne_q_l : ¬ (w4.heap.size = w2.heap.size + 1) := by omega
  have en_q_l : ¬ (w2.heap.size + 1 = w4.heap.size) := by omega
  have zp5 : w4.heap.size ≤ p5.heap.size := (by rw [hp]; exact leA)
  clear hp O
  have O := O'
  clear O'
  have q_r_0 := B_r.cell 0 rfl
  have q_r_1 := B_r.cell 1 rfl
  have q_r_2 := B_r.cell 2 rfl
  have f_r_0 := B_r.frozen 0
  have f_r_1 := B_r.frozen 1
  have f_r_2 := B_r.frozen 2
  have q_r := B_r.lt
  have q_n_0 := B_n.cell 0 rfl
  have q_n_1 := B_n.cell 1 rfl
  have f_n_0 := B_n.frozen 0
  have f_n_1 := B_n.frozen 1
  have q_n := B_n.lt
  have q_l_0 := B_l.cell 0 rfl
  have f_l_0 := B_l.frozen 0
  have q_l := B_l.lt
  have q_q_0 := B_q.cell 0 rfl
  have q_q_1 := B_q.cell 1 rfl
  have q_q_2 := B_q.cell 2 rfl
  have f_q_0 := B_q.frozen 0
  have f_q_1 := B_q.frozen 1
  have f_q_2 := B_q.frozen 2
  have q_q := B_q.lt
  go_wp2
  refine bodyPost_ret (v := .tuple #[.agg #[.bool false, .slice none 0 0, .slice none 0 0], .bool false]) (by simp [results, Tryz.results5, go_sem, q_r_0, q_r_1, q_r_2]) rfl ⟨RetRB.zero rfl, Below.trans (b := p5) O oldB⟩
set_option maxRecDepth 100000 in
set_option maxHeartbeats 8000000 in
theorem spec_ParseRat_cut_no2 (s : ByteArray) (z : Int) (w : World) (b : s.size ≤ 1048576) (sA sB : ByteArray) (d : Nat) (b1 b2 : Bool) (l : List ByteArray) (hsp : rSplitAny s ⟨#[47]⟩ = sA :: sB :: l) (hz : zParseBigInt sA = z) (ht : rParseBigInt1 sA = b1) (hd : rParseNat sB = d) (hu : rParseNat1 sB = b2) (k1 : b1 = true) (k2 : b2 = false) :
    Calls Tryz.prog 5 #[.string s] w fun e w' => RetRB e w' w.heap.size (0, 0) false ∧ Old w w' := by
  subst k1
  subst k2
  have hlz : len (magZ z) ≤ 60 := by rw [← hz]; exact zParseBigInt_len _
  have HZ := Lib.hid hz
  have HT := Lib.hid ht
  clear hz ht
  have hld : len d ≤ 60 := by rw [← hd]; exact rParseNat_len _
  have HD := Lib.hid hd
  have HU := Lib.hid hu
  clear hd hu
  have HP : Hid (sA.size ≤ maxLen) := Lib.hid (by have := Nat.le_trans (piecesQ (s := s) (y := ⟨#[47]⟩) (p := sA) (by rw [hsp]; simp)) b; unfold maxLen; omega)
  have HQ : Hid (sB.size ≤ maxLen) := Lib.hid (by have := Nat.le_trans (piecesQ (s := s) (y := ⟨#[47]⟩) (p := sB) (by rw [hsp]; simp)) b; unfold maxLen; omega)
  obtain ⟨L, hL⟩ : ∃ L, L = (rSplitAny s ⟨#[47]⟩).length := ⟨_, rfl⟩
  have hL2 : 2 ≤ L := by rw [hL, hsp]; simp
  have hLm : L ≤ 1048577 := by rw [hL]; have := rSplitAny_len s ⟨#[47]⟩; omega
  have HL := Lib.hid hL
  have G0 : Hid ((rSplitAny s ⟨#[47]⟩).getD 0 ByteArray.empty = sA) := Lib.hid (by rw [hsp]; rfl)
  have G1 : Hid ((rSplitAny s ⟨#[47]⟩).getD 1 ByteArray.empty = sB) := Lib.hid (by rw [hsp]; rfl)
  clear hsp hL
  have O : Old w (w.alloc (.cells #[.bool false, .slice none 0 0, .slice none 0 0] 26)) := oldB
  have B_r : Bx (w.alloc (.cells #[.bool false, .slice none 0 0, .slice none 0 0] 26)) (w.heap.size) #[.bool false, .slice none 0 0, .slice none 0 0] := by have h := (Bx.new w #[.bool false, .slice none 0 0, .slice none 0 0] 26); simpa using h
  have ze : w.heap.size + 1 ≤ (w.alloc (.cells #[.bool false, .slice none 0 0, .slice none 0 0] 26)).heap.size := (by simp)
  go_enter Tryz.func5, Tryz.ntmps5
  go_wp2_with fail
  refine callsNamed ?_
  intro p1 hp
  have O' : Old w p1 := (by rw [hp]; exact Below.trans (b := (w.alloc (.cells #[.bool false, .slice none 0 0, .slice none 0 0] 26))) O oldB)
  replace B_r : Bx p1 (w.heap.size) #[.bool false, .slice none 0 0, .slice none 0 0] := (by rw [hp]; repeat' (first | (with_reducible exact B_r) | (with_reducible refine Bx.alloc ?_ _) | (with_reducible refine Bx.drewN ?_ _) | (with_reducible refine Bx.drew ?_) | refine Bx.far ?_ (by first | assumption | (simp <;> done) | (simp; omega) | omega) _))
  have zp1 : (w.alloc (.cells #[.bool false, .slice none 0 0, .slice none 0 0] 26)).heap.size ≤ p1.heap.size := (by rw [hp]; exact leA)
  clear hp O
  have O := O'
  clear O'
  refine (spec_SplitAny s ⟨#[47]⟩ _ b (by show 1 ≤ _; omega)).mono ?_
  rintro e w1 ⟨⟨A, c, rfl, R⟩, o1⟩
  replace B_r := Bx.old B_r o1
  replace O := Old.trans O o1
  have zw1 := o1.size
  replace R := strs_len R HL.out
  rw [← HL.out]
  obtain ⟨bb, ob, rfl, _, hbs, _, hc⟩ := R.2 (by omega)
  have hx0 : w1.cell? ⟨bb, ob, none⟩ = some (.string sA) := (hc 0 (by omega)).trans (congrArg (fun x => some (Value.string x)) G0.out)
  have HC1 : Hid (w1.cell? ⟨bb, ob + 1, none⟩ = some (.string sB)) := Lib.hid ((hc 1 (by omega)).trans (congrArg (fun x => some (Value.string x)) G1.out))
  clear hc R
  have q_r_0 := B_r.cell 0 rfl
  have q_r_1 := B_r.cell 1 rfl
  have q_r_2 := B_r.cell 2 rfl
  have f_r_0 := B_r.frozen 0
  have f_r_1 := B_r.frozen 1
  have f_r_2 := B_r.frozen 2
  have q_r := B_r.lt
  go_wp2_with fail
  refine callsNamed ?_
  intro p2 hp
  clear q_r_0 q_r_1 q_r_2 f_r_0 f_r_1 f_r_2 q_r
  have O' : Old w p2 := (by rw [hp]; exact Below.trans (b := w1) O oldB)
  replace B_r : Bx p2 (w.heap.size) #[.bool false, .slice none 0 0, .slice none 0 0] := (by rw [hp]; repeat' (first | (with_reducible exact B_r) | (with_reducible refine Bx.alloc ?_ _) | (with_reducible refine Bx.drewN ?_ _) | (with_reducible refine Bx.drew ?_) | refine Bx.far ?_ (by first | assumption | (simp <;> done) | (simp; omega) | omega) _))
  have zp2 : w1.heap.size ≤ p2.heap.size := (by rw [hp]; exact leA)
  have HX1 : Hid (p2.cell? ⟨bb, ob + 1, none⟩ = some (.string sB)) := Lib.hid (by rw [hp]; exact HC1.out)
  clear hp O
  have O := O'
  clear O'
  refine (specBig_c sA z true _ HP.out HZ.out HT.out).mono ?_
  rintro e w2 ⟨⟨A1, c1, rfl, r1⟩, o2⟩
  replace B_r := Bx.old B_r o2
  replace O := Old.trans O o2
  have zw2 := o2.size
  replace r1 := Row.more (lo' := p2.heap.size) r1 leA
  have lim_r1 := Row.lim r1
  clear hx0
  have HX2 := Lib.hid ((o2.cell (p := ⟨bb, ob + 1, none⟩) (Nat.lt_of_lt_of_le hbs zp2)).trans HX1.out)
  have hbs2 : bb < w2.heap.size := by omega
  have q_r_0 := B_r.cell 0 rfl
  have q_r_1 := B_r.cell 1 rfl
  have q_r_2 := B_r.cell 2 rfl
  have f_r_0 := B_r.frozen 0
  have f_r_1 := B_r.frozen 1
  have f_r_2 := B_r.frozen 2
  have q_r := B_r.lt
  go_upto_region 6 with fail
  refine wpNamed ?_
  intro p3 hp
  clear q_r_0 q_r_1 q_r_2 f_r_0 f_r_1 f_r_2 q_r
  have O' : Old w p3 := (by rw [hp]; exact Below.trans (b := w2) O oldB)
  replace B_r : Bx p3 (w.heap.size) #[.bool false, .slice none 0 0, .slice none 0 0] := (by rw [hp]; repeat' (first | (with_reducible exact B_r) | (with_reducible refine Bx.alloc ?_ _) | (with_reducible refine Bx.drewN ?_ _) | (with_reducible refine Bx.drew ?_) | refine Bx.far ?_ (by first | assumption | (simp <;> done) | (simp; omega) | omega) _))
  replace r1 := Row.at r1 p3 (by rw [hp]; repeat' (first | (with_reducible exact r1) | (with_reducible refine Row.alloc' ?_ _) | (with_reducible refine Row.drewN ?_ _) | (with_reducible refine Row.drew' ?_) | refine Row.far_off ?_ (by assumption) _ | refine Row.far_set ?_ (by first | (simp <;> done) | (simp; omega) | omega) _))
  have B_n : Bx p3 (w2.heap.size) #[.bool (sgnZ z), .slice A1 (len (magZ z)) c1] := (by rw [hp]; repeat' (first | (exact Bx.newAt3 (by first | rfl | (simp <;> done))) | (exact Bx.put2 (Bx.newAt3 (by first | rfl | (simp <;> done))) _ _) | (with_reducible refine Bx.alloc ?_ _) | (with_reducible refine Bx.drewN ?_ _) | (with_reducible refine Bx.drew ?_) | refine Bx.far ?_ (by first | assumption | (simp <;> done) | (simp; omega) | omega) _))
  have lt_n := B_n.lt
  have ne_n_r : ¬ (w2.heap.size = w.heap.size) := by omega
  have en_n_r : ¬ (w.heap.size = w2.heap.size) := by omega
  have B_l : Bx p3 (w2.heap.size + 1) #[.int .i64 1] := (by rw [hp]; repeat' (first | (exact Bx.newAt3 (by first | rfl | (simp <;> done))) | (with_reducible refine Bx.alloc ?_ _) | (with_reducible refine Bx.drewN ?_ _) | (with_reducible refine Bx.drew ?_) | refine Bx.far ?_ (by first | assumption | (simp <;> done) | (simp; omega) | omega) _))
  have lt_l := B_l.lt
  have ne_l_r : ¬ (w2.heap.size + 1 = w.heap.size) := by omega
  have en_l_r : ¬ (w.heap.size = w2.heap.size + 1) := by omega
  have ne_l_n : ¬ (w2.heap.size + 1 = w2.heap.size) := by omega
  have en_l_n : ¬ (w2.heap.size = w2.heap.size + 1) := by omega
  have hx1 : p3.cell? ⟨bb, ob + 1, none⟩ = some (.string sB) := (Below.cell (show Old w2 p3 from by rw [hp]; exact oldB) (p := ⟨bb, ob + 1, none⟩) hbs2).trans HX2.out
  have zp3 : w2.heap.size ≤ p3.heap.size := (by rw [hp]; exact leA)
  clear hp O
  have O := O'
  clear O'
  have rl := one_box B_l (lo := w2.heap.size) (by omega)
  have q_r_0 := B_r.cell 0 rfl
  have q_r_1 := B_r.cell 1 rfl
  have q_r_2 := B_r.cell 2 rfl
  have f_r_0 := B_r.frozen 0
  have f_r_1 := B_r.frozen 1
  have f_r_2 := B_r.frozen 2
  have q_r := B_r.lt
  have q_n_0 := B_n.cell 0 rfl
  have q_n_1 := B_n.cell 1 rfl
  have f_n_0 := B_n.frozen 0
  have f_n_1 := B_n.frozen 1
  have q_n := B_n.lt
  have q_l_0 := B_l.cell 0 rfl
  have f_l_0 := B_l.frozen 0
  have q_l := B_l.lt
  go_wp2_with fail
  refine callsNamed ?_
  intro p4 hp
  clear q_r_0 q_r_1 q_r_2 f_r_0 f_r_1 f_r_2 q_r q_n_0 q_n_1 f_n_0 f_n_1 q_n q_l_0 f_l_0 q_l
  have O' : Old w p4 := (by rw [hp]; exact Below.trans (b := p3) O oldB)
  replace B_r : Bx p4 (w.heap.size) #[.bool false, .slice none 0 0, .slice none 0 0] := (by rw [hp]; repeat' (first | (with_reducible exact B_r) | (with_reducible refine Bx.alloc ?_ _) | (with_reducible refine Bx.drewN ?_ _) | (with_reducible refine Bx.drew ?_) | refine Bx.far ?_ (by first | assumption | (simp <;> done) | (simp; omega) | omega) _))
  replace B_n : Bx p4 (w2.heap.size) #[.bool (sgnZ z), .slice A1 (len (magZ z)) c1] := (by rw [hp]; repeat' (first | (with_reducible exact B_n) | (with_reducible refine Bx.alloc ?_ _) | (with_reducible refine Bx.drewN ?_ _) | (with_reducible refine Bx.drew ?_) | refine Bx.far ?_ (by first | assumption | (simp <;> done) | (simp; omega) | omega) _))
  replace B_l : Bx p4 (w2.heap.size + 1) #[.int .i64 1] := (by rw [hp]; repeat' (first | (with_reducible exact B_l) | (with_reducible refine Bx.alloc ?_ _) | (with_reducible refine Bx.drewN ?_ _) | (with_reducible refine Bx.drew ?_) | refine Bx.far ?_ (by first | assumption | (simp <;> done) | (simp; omega) | omega) _))
  replace r1 := Row.at r1 p4 (by rw [hp]; repeat' (first | (with_reducible exact r1) | (with_reducible refine Row.alloc' ?_ _) | (with_reducible refine Row.drewN ?_ _) | (with_reducible refine Row.drew' ?_) | refine Row.far_off ?_ (by assumption) _ | refine Row.far_set ?_ (by first | (simp <;> done) | (simp; omega) | omega) _))
  replace rl := Row.at rl p4 (by rw [hp]; repeat' (first | (with_reducible exact rl) | (with_reducible refine Row.alloc' ?_ _) | (with_reducible refine Row.drewN ?_ _) | (with_reducible refine Row.drew' ?_) | refine Row.far_off ?_ (by assumption) _ | refine Row.far_set ?_ (by first | (simp <;> done) | (simp; omega) | omega) _))
  have zp4 : p3.heap.size ≤ p4.heap.size := (by rw [hp]; exact leA)
  clear hp O
  have O := O'
  clear O'
  refine (specNat_c sB d false _ HQ.out HD.out HU.out).mono ?_
  rintro e w4 ⟨⟨A2, c2, rfl, r2⟩, o4⟩
  replace B_r := Bx.old B_r o4
  replace B_n := Bx.old B_n o4
  replace B_l := Bx.old B_l o4
  replace r1 := Row.below r1 o4 (Nat.le_refl _)
  replace rl := Row.below rl o4 (Nat.le_refl _)
  replace O := Old.trans O o4
  have zw4 := o4.size
  replace r2 := Row.more (lo' := p4.heap.size) r2 leA
  have lim_r2 := Row.lim r2
  have q_r_0 := B_r.cell 0 rfl
  have q_r_1 := B_r.cell 1 rfl
  have q_r_2 := B_r.cell 2 rfl
  have f_r_0 := B_r.frozen 0
  have f_r_1 := B_r.frozen 1
  have f_r_2 := B_r.frozen 2
  have q_r := B_r.lt
  have q_n_0 := B_n.cell 0 rfl
  have q_n_1 := B_n.cell 1 rfl
  have f_n_0 := B_n.frozen 0
  have f_n_1 := B_n.frozen 1
  have q_n := B_n.lt
  have q_l_0 := B_l.cell 0 rfl
  have f_l_0 := B_l.frozen 0
  have q_l := B_l.lt
  go_upto_region 8 with fail
  refine wpNamed ?_
  intro p5 hp
  clear q_r_0 q_r_1 q_r_2 f_r_0 f_r_1 f_r_2 q_r q_n_0 q_n_1 f_n_0 f_n_1 q_n q_l_0 f_l_0 q_l
  have O' : Old w p5 := (by rw [hp]; exact Below.trans (b := w4) O oldB)
  replace B_r : Bx p5 (w.heap.size) #[.bool false, .slice none 0 0, .slice none 0 0] := (by rw [hp]; repeat' (first | (with_reducible exact B_r) | (with_reducible refine Bx.alloc ?_ _) | (with_reducible refine Bx.drewN ?_ _) | (with_reducible refine Bx.drew ?_) | refine Bx.far ?_ (by first | assumption | (simp <;> done) | (simp; omega) | omega) _))
  replace B_n : Bx p5 (w2.heap.size) #[.bool (sgnZ z), .slice A1 (len (magZ z)) c1] := (by rw [hp]; repeat' (first | (with_reducible exact B_n) | (with_reducible refine Bx.alloc ?_ _) | (with_reducible refine Bx.drewN ?_ _) | (with_reducible refine Bx.drew ?_) | refine Bx.far ?_ (by first | assumption | (simp <;> done) | (simp; omega) | omega) _))
  replace B_l : Bx p5 (w2.heap.size + 1) #[.int .i64 1] := (by rw [hp]; repeat' (first | (with_reducible exact B_l) | (with_reducible refine Bx.alloc ?_ _) | (with_reducible refine Bx.drewN ?_ _) | (with_reducible refine Bx.drew ?_) | refine Bx.far ?_ (by first | assumption | (simp <;> done) | (simp; omega) | omega) _))
  replace r1 := Row.at r1 p5 (by rw [hp]; repeat' (first | (with_reducible exact r1) | (with_reducible refine Row.alloc' ?_ _) | (with_reducible refine Row.drewN ?_ _) | (with_reducible refine Row.drew' ?_) | refine Row.far_off ?_ (by assumption) _ | refine Row.far_set ?_ (by first | (simp <;> done) | (simp; omega) | omega) _))
  replace rl := Row.at rl p5 (by rw [hp]; repeat' (first | (with_reducible exact rl) | (with_reducible refine Row.alloc' ?_ _) | (with_reducible refine Row.drewN ?_ _) | (with_reducible refine Row.drew' ?_) | refine Row.far_off ?_ (by assumption) _ | refine Row.far_set ?_ (by first | (simp <;> done) | (simp; omega) | omega) _))
  replace r2 := Row.at r2 p5 (by rw [hp]; repeat' (first | (with_reducible exact r2) | (with_reducible refine Row.alloc' ?_ _) | (with_reducible refine Row.drewN ?_ _) | (with_reducible refine Row.drew' ?_) | refine Row.far_off ?_ (by assumption) _ | refine Row.far_set ?_ (by first | (simp <;> done) | (simp; omega) | omega) _))
  have B_q : Bx p5 (w4.heap.size) #[.bool (sgnZ z), .slice A1 (len (magZ z)) c1, .slice A2 (len d) c2] := (by rw [hp]; repeat' (first | (exact Bx.newAt3 (by first | rfl | (simp <;> done))) | (exact Bx.put3 (Bx.newAt3 (by first | rfl | (simp <;> done))) _ _ _) | (with_reducible refine Bx.alloc ?_ _) | (with_reducible refine Bx.drewN ?_ _) | (with_reducible refine Bx.drew ?_) | refine Bx.far ?_ (by first | assumption | (simp <;> done) | (simp; omega) | omega) _))
  have lt_q := B_q.lt
  have ne_q_r : ¬ (w4.heap.size = w.heap.size) := by omega
  have en_q_r : ¬ (w.heap.size = w4.heap.size) := by omega
  have ne_q_n : ¬ (w4.heap.size = w2.heap.size) := by omega
  have en_q_n : ¬ (w2.heap.size = w4.heap.size) := by omega
  have ne_q_l : ¬ (w4.heap.size = w2.heap.size + 1) := by omega
  have en_q_l : ¬ (w2.heap.size + 1 = w4.heap.size) := by omega
  have zp5 : w4.heap.size ≤ p5.heap.size := (by rw [hp]; exact leA)
  clear hp O
  have O := O'
  clear O'
  have q_r_0 := B_r.cell 0 rfl
  have q_r_1 := B_r.cell 1 rfl
  have q_r_2 := B_r.cell 2 rfl
  have f_r_0 := B_r.frozen 0
  have f_r_1 := B_r.frozen 1
  have f_r_2 := B_r.frozen 2
  have q_r := B_r.lt
  have q_n_0 := B_n.cell 0 rfl
  have q_n_1 := B_n.cell 1 rfl
  have f_n_0 := B_n.frozen 0
  have f_n_1 := B_n.frozen 1
  have q_n := B_n.lt
  have q_l_0 := B_l.cell 0 rfl
  have f_l_0 := B_l.frozen 0
  have q_l := B_l.lt
  have q_q_0 := B_q.cell 0 rfl
  have q_q_1 := B_q.cell 1 rfl
  have q_q_2 := B_q.cell 2 rfl
  have f_q_0 := B_q.frozen 0
  have f_q_1 := B_q.frozen 1
  have f_q_2 := B_q.frozen 2
  have q_q := B_q.lt
  go_wp2
  refine bodyPost_ret (v := .tuple #[.agg #[.bool false, .slice none 0 0, .slice none 0 0], .bool false]) (by simp [results, Tryz.results5, go_sem, q_r_0, q_r_1, q_r_2]) rfl ⟨RetRB.zero rfl, Below.trans (b := p5) O oldB⟩
set_option maxRecDepth 100000 in
set_option maxHeartbeats 8000000 in
theorem spec_ParseRat_cut_no3 (s : ByteArray) (z : Int) (w : World) (b : s.size ≤ 1048576) (sA sB : ByteArray) (d : Nat) (b1 b2 : Bool) (l : List ByteArray) (hsp : rSplitAny s ⟨#[47]⟩ = sA :: sB :: l) (hz : zParseBigInt sA = z) (ht : rParseBigInt1 sA = b1) (hd : rParseNat sB = d) (hu : rParseNat1 sB = b2) (k1 : b1 = true) (k2 : b2 = true) (k3 : ¬ okR (sgnZ z) (len (magZ z)) (digI (magZ z)) (len d) (digI d)) :
    Calls Tryz.prog 5 #[.string s] w fun e w' => RetRB e w' w.heap.size (0, 0) false ∧ Old w w' := by
  subst k1
  subst k2
  have hlz : len (magZ z) ≤ 60 := by rw [← hz]; exact zParseBigInt_len _
  have HZ := Lib.hid hz
  have HT := Lib.hid ht
  clear hz ht
  have hld : len d ≤ 60 := by rw [← hd]; exact rParseNat_len _
  have HD := Lib.hid hd
  have HU := Lib.hid hu
  clear hd hu
  have HP : Hid (sA.size ≤ maxLen) := Lib.hid (by have := Nat.le_trans (piecesQ (s := s) (y := ⟨#[47]⟩) (p := sA) (by rw [hsp]; simp)) b; unfold maxLen; omega)
  have HQ : Hid (sB.size ≤ maxLen) := Lib.hid (by have := Nat.le_trans (piecesQ (s := s) (y := ⟨#[47]⟩) (p := sB) (by rw [hsp]; simp)) b; unfold maxLen; omega)
  obtain ⟨L, hL⟩ : ∃ L, L = (rSplitAny s ⟨#[47]⟩).length := ⟨_, rfl⟩
  have hL2 : 2 ≤ L := by rw [hL, hsp]; simp
  have hLm : L ≤ 1048577 := by rw [hL]; have := rSplitAny_len s ⟨#[47]⟩; omega
  have HL := Lib.hid hL
  have G0 : Hid ((rSplitAny s ⟨#[47]⟩).getD 0 ByteArray.empty = sA) := Lib.hid (by rw [hsp]; rfl)
  have G1 : Hid ((rSplitAny s ⟨#[47]⟩).getD 1 ByteArray.empty = sB) := Lib.hid (by rw [hsp]; rfl)
  clear hsp hL
  have K3 := Lib.hid k3
  clear k3
  have O : Old w (w.alloc (.cells #[.bool false, .slice none 0 0, .slice none 0 0] 26)) := oldB
  have B_r : Bx (w.alloc (.cells #[.bool false, .slice none 0 0, .slice none 0 0] 26)) (w.heap.size) #[.bool false, .slice none 0 0, .slice none 0 0] := by have h := (Bx.new w #[.bool false, .slice none 0 0, .slice none 0 0] 26); simpa using h
  have ze : w.heap.size + 1 ≤ (w.alloc (.cells #[.bool false, .slice none 0 0, .slice none 0 0] 26)).heap.size := (by simp)
  go_enter Tryz.func5, Tryz.ntmps5
  go_wp2_with fail
  refine callsNamed ?_
  intro p1 hp
  have O' : Old w p1 := (by rw [hp]; exact Below.trans (b := (w.alloc (.cells #[.bool false, .slice none 0 0, .slice none 0 0] 26))) O oldB)
  replace B_r : Bx p1 (w.heap.size) #[.bool false, .slice none 0 0, .slice none 0 0] := (by rw [hp]; repeat' (first | (with_reducible exact B_r) | (with_reducible refine Bx.alloc ?_ _) | (with_reducible refine Bx.drewN ?_ _) | (with_reducible refine Bx.drew ?_) | refine Bx.far ?_ (by first | assumption | (simp <;> done) | (simp; omega) | omega) _))
  have zp1 : (w.alloc (.cells #[.bool false, .slice none 0 0, .slice none 0 0] 26)).heap.size ≤ p1.heap.size := (by rw [hp]; exact leA)
  clear hp O
  have O := O'
  clear O'
  refine (spec_SplitAny s ⟨#[47]⟩ _ b (by show 1 ≤ _; omega)).mono ?_
  rintro e w1 ⟨⟨A, c, rfl, R⟩, o1⟩
  replace B_r := Bx.old B_r o1
  replace O := Old.trans O o1
  have zw1 := o1.size
  replace R := strs_len R HL.out
  rw [← HL.out]
  obtain ⟨bb, ob, rfl, _, hbs, _, hc⟩ := R.2 (by omega)
  have hx0 : w1.cell? ⟨bb, ob, none⟩ = some (.string sA) := (hc 0 (by omega)).trans (congrArg (fun x => some (Value.string x)) G0.out)
  have HC1 : Hid (w1.cell? ⟨bb, ob + 1, none⟩ = some (.string sB)) := Lib.hid ((hc 1 (by omega)).trans (congrArg (fun x => some (Value.string x)) G1.out))
  clear hc R
  have q_r_0 := B_r.cell 0 rfl
  have q_r_1 := B_r.cell 1 rfl
  have q_r_2 := B_r.cell 2 rfl
  have f_r_0 := B_r.frozen 0
  have f_r_1 := B_r.frozen 1
  have f_r_2 := B_r.frozen 2
  have q_r := B_r.lt
  go_wp2_with fail
  refine callsNamed ?_
  intro p2 hp
  clear q_r_0 q_r_1 q_r_2 f_r_0 f_r_1 f_r_2 q_r
  have O' : Old w p2 := (by rw [hp]; exact Below.trans (b := w1) O oldB)
  replace B_r : Bx p2 (w.heap.size) #[.bool false, .slice none 0 0, .slice none 0 0] := (by rw [hp]; repeat' (first | (with_reducible exact B_r) | (with_reducible refine Bx.alloc ?_ _) | (with_reducible refine Bx.drewN ?_ _) | (with_reducible refine Bx.drew ?_) | refine Bx.far ?_ (by first | assumption | (simp <;> done) | (simp; omega) | omega) _))
  have zp2 : w1.heap.size ≤ p2.heap.size := (by rw [hp]; exact leA)
  have HX1 : Hid (p2.cell? ⟨bb, ob + 1, none⟩ = some (.string sB)) := Lib.hid (by rw [hp]; exact HC1.out)
  clear hp O
  have O := O'
  clear O'
  refine (specBig_c sA z true _ HP.out HZ.out HT.out).mono ?_
  rintro e w2 ⟨⟨A1, c1, rfl, r1⟩, o2⟩
  replace B_r := Bx.old B_r o2
  replace O := Old.trans O o2
  have zw2 := o2.size
  replace r1 := Row.more (lo' := p2.heap.size) r1 leA
  have lim_r1 := Row.lim r1
  clear hx0
  have HX2 := Lib.hid ((o2.cell (p := ⟨bb, ob + 1, none⟩) (Nat.lt_of_lt_of_le hbs zp2)).trans HX1.out)
  have hbs2 : bb < w2.heap.size := by omega
  have q_r_0 := B_r.cell 0 rfl
  have q_r_1 := B_r.cell 1 rfl
  have q_r_2 := B_r.cell 2 rfl
  have f_r_0 := B_r.frozen 0
  have f_r_1 := B_r.frozen 1
  have f_r_2 := B_r.frozen 2
  have q_r := B_r.lt
  go_upto_region 6 with fail
  refine wpNamed ?_
  intro p3 hp
  clear q_r_0 q_r_1 q_r_2 f_r_0 f_r_1 f_r_2 q_r
  have O' : Old w p3 := (by rw [hp]; exact Below.trans (b := w2) O oldB)
  replace B_r : Bx p3 (w.heap.size) #[.bool false, .slice none 0 0, .slice none 0 0] := (by rw [hp]; repeat' (first | (with_reducible exact B_r) | (with_reducible refine Bx.alloc ?_ _) | (with_reducible refine Bx.drewN ?_ _) | (with_reducible refine Bx.drew ?_) | refine Bx.far ?_ (by first | assumption | (simp <;> done) | (simp; omega) | omega) _))
  replace r1 := Row.at r1 p3 (by rw [hp]; repeat' (first | (with_reducible exact r1) | (with_reducible refine Row.alloc' ?_ _) | (with_reducible refine Row.drewN ?_ _) | (with_reducible refine Row.drew' ?_) | refine Row.far_off ?_ (by assumption) _ | refine Row.far_set ?_ (by first | (simp <;> done) | (simp; omega) | omega) _))
  have B_n : Bx p3 (w2.heap.size) #[.bool (sgnZ z), .slice A1 (len (magZ z)) c1] := (by rw [hp]; repeat' (first | (exact Bx.newAt3 (by first | rfl | (simp <;> done))) | (exact Bx.put2 (Bx.newAt3 (by first | rfl | (simp <;> done))) _ _) | (with_reducible refine Bx.alloc ?_ _) | (with_reducible refine Bx.drewN ?_ _) | (with_reducible refine Bx.drew ?_) | refine Bx.far ?_ (by first | assumption | (simp <;> done) | (simp; omega) | omega) _))
  have lt_n := B_n.lt
  have ne_n_r : ¬ (w2.heap.size = w.heap.size) := by omega
  have en_n_r : ¬ (w.heap.size = w2.heap.size) := by omega
  have B_l : Bx p3 (w2.heap.size + 1) #[.int .i64 1] := (by rw [hp]; repeat' (first | (exact Bx.newAt3 (by first | rfl | (simp <;> done))) | (with_reducible refine Bx.alloc ?_ _) | (with_reducible refine Bx.drewN ?_ _) | (with_reducible refine Bx.drew ?_) | refine Bx.far ?_ (by first | assumption | (simp <;> done) | (simp; omega) | omega) _))
  have lt_l := B_l.lt
  have ne_l_r : ¬ (w2.heap.size + 1 = w.heap.size) := by omega
  have en_l_r : ¬ (w.heap.size = w2.heap.size + 1) := by omega
  have ne_l_n : ¬ (w2.heap.size + 1 = w2.heap.size) := by omega
  have en_l_n : ¬ (w2.heap.size = w2.heap.size + 1) := by omega
  have hx1 : p3.cell? ⟨bb, ob + 1, none⟩ = some (.string sB) := (Below.cell (show Old w2 p3 from by rw [hp]; exact oldB) (p := ⟨bb, ob + 1, none⟩) hbs2).trans HX2.out
  have zp3 : w2.heap.size ≤ p3.heap.size := (by rw [hp]; exact leA)
  clear hp O
  have O := O'
  clear O'
  have rl := one_box B_l (lo := w2.heap.size) (by omega)
  have q_r_0 := B_r.cell 0 rfl
  have q_r_1 := B_r.cell 1 rfl
  have q_r_2 := B_r.cell 2 rfl
  have f_r_0 := B_r.frozen 0
  have f_r_1 := B_r.frozen 1
  have f_r_2 := B_r.frozen 2
  have q_r := B_r.lt
  have q_n_0 := B_n.cell 0 rfl
  have q_n_1 := B_n.cell 1 rfl
  have f_n_0 := B_n.frozen 0
  have f_n_1 := B_n.frozen 1
  have q_n := B_n.lt
  have q_l_0 := B_l.cell 0 rfl
  have f_l_0 := B_l.frozen 0
  have q_l := B_l.lt
  go_wp2_with fail
  refine callsNamed ?_
  intro p4 hp
  clear q_r_0 q_r_1 q_r_2 f_r_0 f_r_1 f_r_2 q_r q_n_0 q_n_1 f_n_0 f_n_1 q_n q_l_0 f_l_0 q_l
  have O' : Old w p4 := (by rw [hp]; exact Below.trans (b := p3) O oldB)
  replace B_r : Bx p4 (w.heap.size) #[.bool false, .slice none 0 0, .slice none 0 0] := (by rw [hp]; repeat' (first | (with_reducible exact B_r) | (with_reducible refine Bx.alloc ?_ _) | (with_reducible refine Bx.drewN ?_ _) | (with_reducible refine Bx.drew ?_) | refine Bx.far ?_ (by first | assumption | (simp <;> done) | (simp; omega) | omega) _))
  replace B_n : Bx p4 (w2.heap.size) #[.bool (sgnZ z), .slice A1 (len (magZ z)) c1] := (by rw [hp]; repeat' (first | (with_reducible exact B_n) | (with_reducible refine Bx.alloc ?_ _) | (with_reducible refine Bx.drewN ?_ _) | (with_reducible refine Bx.drew ?_) | refine Bx.far ?_ (by first | assumption | (simp <;> done) | (simp; omega) | omega) _))
  replace B_l : Bx p4 (w2.heap.size + 1) #[.int .i64 1] := (by rw [hp]; repeat' (first | (with_reducible exact B_l) | (with_reducible refine Bx.alloc ?_ _) | (with_reducible refine Bx.drewN ?_ _) | (with_reducible refine Bx.drew ?_) | refine Bx.far ?_ (by first | assumption | (simp <;> done) | (simp; omega) | omega) _))
  replace r1 := Row.at r1 p4 (by rw [hp]; repeat' (first | (with_reducible exact r1) | (with_reducible refine Row.alloc' ?_ _) | (with_reducible refine Row.drewN ?_ _) | (with_reducible refine Row.drew' ?_) | refine Row.far_off ?_ (by assumption) _ | refine Row.far_set ?_ (by first | (simp <;> done) | (simp; omega) | omega) _))
  replace rl := Row.at rl p4 (by rw [hp]; repeat' (first | (with_reducible exact rl) | (with_reducible refine Row.alloc' ?_ _) | (with_reducible refine Row.drewN ?_ _) | (with_reducible refine Row.drew' ?_) | refine Row.far_off ?_ (by assumption) _ | refine Row.far_set ?_ (by first | (simp <;> done) | (simp; omega) | omega) _))
  have zp4 : p3.heap.size ≤ p4.heap.size := (by rw [hp]; exact leA)
  clear hp O
  have O := O'
  clear O'
  refine (specNat_c sB d true _ HQ.out HD.out HU.out).mono ?_
  rintro e w4 ⟨⟨A2, c2, rfl, r2⟩, o4⟩
  replace B_r := Bx.old B_r o4
  replace B_n := Bx.old B_n o4
  replace B_l := Bx.old B_l o4
  replace r1 := Row.below r1 o4 (Nat.le_refl _)
  replace rl := Row.below rl o4 (Nat.le_refl _)
  replace O := Old.trans O o4
  have zw4 := o4.size
  replace r2 := Row.more (lo' := p4.heap.size) r2 leA
  have lim_r2 := Row.lim r2
  have q_r_0 := B_r.cell 0 rfl
  have q_r_1 := B_r.cell 1 rfl
  have q_r_2 := B_r.cell 2 rfl
  have f_r_0 := B_r.frozen 0
  have f_r_1 := B_r.frozen 1
  have f_r_2 := B_r.frozen 2
  have q_r := B_r.lt
  have q_n_0 := B_n.cell 0 rfl
  have q_n_1 := B_n.cell 1 rfl
  have f_n_0 := B_n.frozen 0
  have f_n_1 := B_n.frozen 1
  have q_n := B_n.lt
  have q_l_0 := B_l.cell 0 rfl
  have f_l_0 := B_l.frozen 0
  have q_l := B_l.lt
  go_wp2_with fail
  refine callsNamed ?_
  intro p5 hp
  clear q_r_0 q_r_1 q_r_2 f_r_0 f_r_1 f_r_2 q_r q_n_0 q_n_1 f_n_0 f_n_1 q_n q_l_0 f_l_0 q_l
  have O' : Old w p5 := (by rw [hp]; exact Below.trans (b := w4) O oldB)
  replace B_r : Bx p5 (w.heap.size) #[.bool false, .slice none 0 0, .slice none 0 0] := (by rw [hp]; repeat' (first | (with_reducible exact B_r) | (with_reducible refine Bx.alloc ?_ _) | (with_reducible refine Bx.drewN ?_ _) | (with_reducible refine Bx.drew ?_) | refine Bx.far ?_ (by first | assumption | (simp <;> done) | (simp; omega) | omega) _))
  replace B_n : Bx p5 (w2.heap.size) #[.bool (sgnZ z), .slice A1 (len (magZ z)) c1] := (by rw [hp]; repeat' (first | (with_reducible exact B_n) | (with_reducible refine Bx.alloc ?_ _) | (with_reducible refine Bx.drewN ?_ _) | (with_reducible refine Bx.drew ?_) | refine Bx.far ?_ (by first | assumption | (simp <;> done) | (simp; omega) | omega) _))
  replace B_l : Bx p5 (w2.heap.size + 1) #[.int .i64 1] := (by rw [hp]; repeat' (first | (with_reducible exact B_l) | (with_reducible refine Bx.alloc ?_ _) | (with_reducible refine Bx.drewN ?_ _) | (with_reducible refine Bx.drew ?_) | refine Bx.far ?_ (by first | assumption | (simp <;> done) | (simp; omega) | omega) _))
  replace r1 := Row.at r1 p5 (by rw [hp]; repeat' (first | (with_reducible exact r1) | (with_reducible refine Row.alloc' ?_ _) | (with_reducible refine Row.drewN ?_ _) | (with_reducible refine Row.drew' ?_) | refine Row.far_off ?_ (by assumption) _ | refine Row.far_set ?_ (by first | (simp <;> done) | (simp; omega) | omega) _))
  replace rl := Row.at rl p5 (by rw [hp]; repeat' (first | (with_reducible exact rl) | (with_reducible refine Row.alloc' ?_ _) | (with_reducible refine Row.drewN ?_ _) | (with_reducible refine Row.drew' ?_) | refine Row.far_off ?_ (by assumption) _ | refine Row.far_set ?_ (by first | (simp <;> done) | (simp; omega) | omega) _))
  replace r2 := Row.at r2 p5 (by rw [hp]; repeat' (first | (with_reducible exact r2) | (with_reducible refine Row.alloc' ?_ _) | (with_reducible refine Row.drewN ?_ _) | (with_reducible refine Row.drew' ?_) | refine Row.far_off ?_ (by assumption) _ | refine Row.far_set ?_ (by first | (simp <;> done) | (simp; omega) | omega) _))
  have B_q : Bx p5 (w4.heap.size) #[.bool (sgnZ z), .slice A1 (len (magZ z)) c1, .slice A2 (len d) c2] := (by rw [hp]; repeat' (first | (exact Bx.newAt3 (by first | rfl | (simp <;> done))) | (exact Bx.put3 (Bx.newAt3 (by first | rfl | (simp <;> done))) _ _ _) | (with_reducible refine Bx.alloc ?_ _) | (with_reducible refine Bx.drewN ?_ _) | (with_reducible refine Bx.drew ?_) | refine Bx.far ?_ (by first | assumption | (simp <;> done) | (simp; omega) | omega) _))
  have lt_q := B_q.lt
  have ne_q_r : ¬ (w4.heap.size = w.heap.size) := by omega
  have en_q_r : ¬ (w.heap.size = w4.heap.size) := by omega
  have ne_q_n : ¬ (w4.heap.size = w2.heap.size) := by omega
  have en_q_n : ¬ (w2.heap.size = w4.heap.size) := by omega
  have ne_q_l : ¬ (w4.heap.size = w2.heap.size + 1) := by omega
  have en_q_l : ¬ (w2.heap.size + 1 = w4.heap.size) := by omega
  have zp5 : w4.heap.size ≤ p5.heap.size := (by rw [hp]; exact leA)
  clear hp O
  have O := O'
  clear O'
  refine (spec_FormatRat (sgnZ z) A1 (len (magZ z)) c1 _ (digI (magZ z)) A2 (len d) c2 _ (digI d) _ r1 r2 (by omega) (by omega)).mono ?_
  rintro e w5 ⟨he, o5⟩
  replace B_r := Bx.old B_r o5
  replace B_n := Bx.old B_n o5
  replace B_l := Bx.old B_l o5
  replace B_q := Bx.old B_q o5
  replace r1 := Row.below r1 o5 (Nat.le_refl _)
  replace rl := Row.below rl o5 (Nat.le_refl _)
  replace r2 := Row.below r2 o5 (Nat.le_refl _)
  replace O := Old.trans O o5
  have zw5 := o5.size
  rw [show rFormatRat (sgnZ z) (len (magZ z)) (digI (magZ z)) (len d) (digI d) = ByteArray.empty from if_neg K3.out] at he
  subst he
  have q_r_0 := B_r.cell 0 rfl
  have q_r_1 := B_r.cell 1 rfl
  have q_r_2 := B_r.cell 2 rfl
  have f_r_0 := B_r.frozen 0
  have f_r_1 := B_r.frozen 1
  have f_r_2 := B_r.frozen 2
  have q_r := B_r.lt
  have q_n_0 := B_n.cell 0 rfl
  have q_n_1 := B_n.cell 1 rfl
  have f_n_0 := B_n.frozen 0
  have f_n_1 := B_n.frozen 1
  have q_n := B_n.lt
  have q_l_0 := B_l.cell 0 rfl
  have f_l_0 := B_l.frozen 0
  have q_l := B_l.lt
  have q_q_0 := B_q.cell 0 rfl
  have q_q_1 := B_q.cell 1 rfl
  have q_q_2 := B_q.cell 2 rfl
  have f_q_0 := B_q.frozen 0
  have f_q_1 := B_q.frozen 1
  have f_q_2 := B_q.frozen 2
  have q_q := B_q.lt
  go_wp2
  refine bodyPost_ret (v := .tuple #[.agg #[.bool false, .slice none 0 0, .slice none 0 0], .bool false]) (by simp [results, Tryz.results5, go_sem, q_r_0, q_r_1, q_r_2]) rfl ⟨RetRB.zero rfl, Below.trans (b := w5) O oldB⟩
set_option maxRecDepth 100000 in
set_option maxHeartbeats 8000000 in
theorem spec_ParseRat_cut_no4 (s : ByteArray) (z : Int) (w : World) (b : s.size ≤ 1048576) (sA sB : ByteArray) (d : Nat) (b1 b2 : Bool) (l : List ByteArray) (hsp : rSplitAny s ⟨#[47]⟩ = sA :: sB :: l) (hz : zParseBigInt sA = z) (ht : rParseBigInt1 sA = b1) (hd : rParseNat sB = d) (hu : rParseNat1 sB = b2) (k1 : b1 = true) (k2 : b2 = true) (k3 : okR (sgnZ z) (len (magZ z)) (digI (magZ z)) (len d) (digI d)) (k4 : ¬ txQ z d = s) (k5 : ¬ (txQ z d).size = 0) :
    Calls Tryz.prog 5 #[.string s] w fun e w' => RetRB e w' w.heap.size (0, 0) false ∧ Old w w' := by
  subst k1
  subst k2
  have hlz : len (magZ z) ≤ 60 := by rw [← hz]; exact zParseBigInt_len _
  have HZ := Lib.hid hz
  have HT := Lib.hid ht
  clear hz ht
  have hld : len d ≤ 60 := by rw [← hd]; exact rParseNat_len _
  have HD := Lib.hid hd
  have HU := Lib.hid hu
  clear hd hu
  have HP : Hid (sA.size ≤ maxLen) := Lib.hid (by have := Nat.le_trans (piecesQ (s := s) (y := ⟨#[47]⟩) (p := sA) (by rw [hsp]; simp)) b; unfold maxLen; omega)
  have HQ : Hid (sB.size ≤ maxLen) := Lib.hid (by have := Nat.le_trans (piecesQ (s := s) (y := ⟨#[47]⟩) (p := sB) (by rw [hsp]; simp)) b; unfold maxLen; omega)
  obtain ⟨L, hL⟩ : ∃ L, L = (rSplitAny s ⟨#[47]⟩).length := ⟨_, rfl⟩
  have hL2 : 2 ≤ L := by rw [hL, hsp]; simp
  have hLm : L ≤ 1048577 := by rw [hL]; have := rSplitAny_len s ⟨#[47]⟩; omega
  have HL := Lib.hid hL
  have G0 : Hid ((rSplitAny s ⟨#[47]⟩).getD 0 ByteArray.empty = sA) := Lib.hid (by rw [hsp]; rfl)
  have G1 : Hid ((rSplitAny s ⟨#[47]⟩).getD 1 ByteArray.empty = sB) := Lib.hid (by rw [hsp]; rfl)
  clear hsp hL
  have K3 := Lib.hid k3
  clear k3
  have hs3 := textQ_neq k4
  clear k4
  have hem := text_ne k5
  clear k5
  have O : Old w (w.alloc (.cells #[.bool false, .slice none 0 0, .slice none 0 0] 26)) := oldB
  have B_r : Bx (w.alloc (.cells #[.bool false, .slice none 0 0, .slice none 0 0] 26)) (w.heap.size) #[.bool false, .slice none 0 0, .slice none 0 0] := by have h := (Bx.new w #[.bool false, .slice none 0 0, .slice none 0 0] 26); simpa using h
  have ze : w.heap.size + 1 ≤ (w.alloc (.cells #[.bool false, .slice none 0 0, .slice none 0 0] 26)).heap.size := (by simp)
  go_enter Tryz.func5, Tryz.ntmps5
  go_wp2_with fail
  refine callsNamed ?_
  intro p1 hp
  have O' : Old w p1 := (by rw [hp]; exact Below.trans (b := (w.alloc (.cells #[.bool false, .slice none 0 0, .slice none 0 0] 26))) O oldB)
  replace B_r : Bx p1 (w.heap.size) #[.bool false, .slice none 0 0, .slice none 0 0] := (by rw [hp]; repeat' (first | (with_reducible exact B_r) | (with_reducible refine Bx.alloc ?_ _) | (with_reducible refine Bx.drewN ?_ _) | (with_reducible refine Bx.drew ?_) | refine Bx.far ?_ (by first | assumption | (simp <;> done) | (simp; omega) | omega) _))
  have zp1 : (w.alloc (.cells #[.bool false, .slice none 0 0, .slice none 0 0] 26)).heap.size ≤ p1.heap.size := (by rw [hp]; exact leA)
  clear hp O
  have O := O'
  clear O'
  refine (spec_SplitAny s ⟨#[47]⟩ _ b (by show 1 ≤ _; omega)).mono ?_
  rintro e w1 ⟨⟨A, c, rfl, R⟩, o1⟩
  replace B_r := Bx.old B_r o1
  replace O := Old.trans O o1
  have zw1 := o1.size
  replace R := strs_len R HL.out
  rw [← HL.out]
  obtain ⟨bb, ob, rfl, _, hbs, _, hc⟩ := R.2 (by omega)
  have hx0 : w1.cell? ⟨bb, ob, none⟩ = some (.string sA) := (hc 0 (by omega)).trans (congrArg (fun x => some (Value.string x)) G0.out)
  have HC1 : Hid (w1.cell? ⟨bb, ob + 1, none⟩ = some (.string sB)) := Lib.hid ((hc 1 (by omega)).trans (congrArg (fun x => some (Value.string x)) G1.out))
  clear hc R
  have q_r_0 := B_r.cell 0 rfl
  have q_r_1 := B_r.cell 1 rfl
  have q_r_2 := B_r.cell 2 rfl
  have f_r_0 := B_r.frozen 0
  have f_r_1 := B_r.frozen 1
  have f_r_2 := B_r.frozen 2
  have q_r := B_r.lt
  go_wp2_with fail
  refine callsNamed ?_
  intro p2 hp
  clear q_r_0 q_r_1 q_r_2 f_r_0 f_r_1 f_r_2 q_r
  have O' : Old w p2 := (by rw [hp]; exact Below.trans (b := w1) O oldB)
  replace B_r : Bx p2 (w.heap.size) #[.bool false, .slice none 0 0, .slice none 0 0] := (by rw [hp]; repeat' (first | (with_reducible exact B_r) | (with_reducible refine Bx.alloc ?_ _) | (with_reducible refine Bx.drewN ?_ _) | (with_reducible refine Bx.drew ?_) | refine Bx.far ?_ (by first | assumption | (simp <;> done) | (simp; omega) | omega) _))
  have zp2 : w1.heap.size ≤ p2.heap.size := (by rw [hp]; exact leA)
  have HX1 : Hid (p2.cell? ⟨bb, ob + 1, none⟩ = some (.string sB)) := Lib.hid (by rw [hp]; exact HC1.out)
  clear hp O
  have O := O'
  clear O'
  refine (specBig_c sA z true _ HP.out HZ.out HT.out).mono ?_
  rintro e w2 ⟨⟨A1, c1, rfl, r1⟩, o2⟩
  replace B_r := Bx.old B_r o2
  replace O := Old.trans O o2
  have zw2 := o2.size
  replace r1 := Row.more (lo' := p2.heap.size) r1 leA
  have lim_r1 := Row.lim r1
  clear hx0
  have HX2 := Lib.hid ((o2.cell (p := ⟨bb, ob + 1, none⟩) (Nat.lt_of_lt_of_le hbs zp2)).trans HX1.out)
  have hbs2 : bb < w2.heap.size := by omega
  have q_r_0 := B_r.cell 0 rfl
  have q_r_1 := B_r.cell 1 rfl
  have q_r_2 := B_r.cell 2 rfl
  have f_r_0 := B_r.frozen 0
  have f_r_1 := B_r.frozen 1
  have f_r_2 := B_r.frozen 2
  have q_r := B_r.lt
  go_upto_region 6 with fail
  refine wpNamed ?_
  intro p3 hp
  clear q_r_0 q_r_1 q_r_2 f_r_0 f_r_1 f_r_2 q_r
  have O' : Old w p3 := (by rw [hp]; exact Below.trans (b := w2) O oldB)
  replace B_r : Bx p3 (w.heap.size) #[.bool false, .slice none 0 0, .slice none 0 0] := (by rw [hp]; repeat' (first | (with_reducible exact B_r) | (with_reducible refine Bx.alloc ?_ _) | (with_reducible refine Bx.drewN ?_ _) | (with_reducible refine Bx.drew ?_) | refine Bx.far ?_ (by first | assumption | (simp <;> done) | (simp; omega) | omega) _))
  replace r1 := Row.at r1 p3 (by rw [hp]; repeat' (first | (with_reducible exact r1) | (with_reducible refine Row.alloc' ?_ _) | (with_reducible refine Row.drewN ?_ _) | (with_reducible refine Row.drew' ?_) | refine Row.far_off ?_ (by assumption) _ | refine Row.far_set ?_ (by first | (simp <;> done) | (simp; omega) | omega) _))
  have B_n : Bx p3 (w2.heap.size) #[.bool (sgnZ z), .slice A1 (len (magZ z)) c1] := (by rw [hp]; repeat' (first | (exact Bx.newAt3 (by first | rfl | (simp <;> done))) | (exact Bx.put2 (Bx.newAt3 (by first | rfl | (simp <;> done))) _ _) | (with_reducible refine Bx.alloc ?_ _) | (with_reducible refine Bx.drewN ?_ _) | (with_reducible refine Bx.drew ?_) | refine Bx.far ?_ (by first | assumption | (simp <;> done) | (simp; omega) | omega) _))
  have lt_n := B_n.lt
  have ne_n_r : ¬ (w2.heap.size = w.heap.size) := by omega
  have en_n_r : ¬ (w.heap.size = w2.heap.size) := by omega
  have B_l : Bx p3 (w2.heap.size + 1) #[.int .i64 1] := (by rw [hp]; repeat' (first | (exact Bx.newAt3 (by first | rfl | (simp <;> done))) | (with_reducible refine Bx.alloc ?_ _) | (with_reducible refine Bx.drewN ?_ _) | (with_reducible refine Bx.drew ?_) | refine Bx.far ?_ (by first | assumption | (simp <;> done) | (simp; omega) | omega) _))
  have lt_l := B_l.lt
  have ne_l_r : ¬ (w2.heap.size + 1 = w.heap.size) := by omega
  have en_l_r : ¬ (w.heap.size = w2.heap.size + 1) := by omega
  have ne_l_n : ¬ (w2.heap.size + 1 = w2.heap.size) := by omega
  have en_l_n : ¬ (w2.heap.size = w2.heap.size + 1) := by omega
  have hx1 : p3.cell? ⟨bb, ob + 1, none⟩ = some (.string sB) := (Below.cell (show Old w2 p3 from by rw [hp]; exact oldB) (p := ⟨bb, ob + 1, none⟩) hbs2).trans HX2.out
  have zp3 : w2.heap.size ≤ p3.heap.size := (by rw [hp]; exact leA)
  clear hp O
  have O := O'
  clear O'
  have rl := one_box B_l (lo := w2.heap.size) (by omega)
  have q_r_0 := B_r.cell 0 rfl
  have q_r_1 := B_r.cell 1 rfl
  have q_r_2 := B_r.cell 2 rfl
  have f_r_0 := B_r.frozen 0
  have f_r_1 := B_r.frozen 1
  have f_r_2 := B_r.frozen 2
  have q_r := B_r.lt
  have q_n_0 := B_n.cell 0 rfl
  have q_n_1 := B_n.cell 1 rfl
  have f_n_0 := B_n.frozen 0
  have f_n_1 := B_n.frozen 1
  have q_n := B_n.lt
  have q_l_0 := B_l.cell 0 rfl
  have f_l_0 := B_l.frozen 0
  have q_l := B_l.lt
  go_wp2_with fail
  refine callsNamed ?_
  intro p4 hp
  clear q_r_0 q_r_1 q_r_2 f_r_0 f_r_1 f_r_2 q_r q_n_0 q_n_1 f_n_0 f_n_1 q_n q_l_0 f_l_0 q_l
  have O' : Old w p4 := (by rw [hp]; exact Below.trans (b := p3) O oldB)
  replace B_r : Bx p4 (w.heap.size) #[.bool false, .slice none 0 0, .slice none 0 0] := (by rw [hp]; repeat' (first | (with_reducible exact B_r) | (with_reducible refine Bx.alloc ?_ _) | (with_reducible refine Bx.drewN ?_ _) | (with_reducible refine Bx.drew ?_) | refine Bx.far ?_ (by first | assumption | (simp <;> done) | (simp; omega) | omega) _))
  replace B_n : Bx p4 (w2.heap.size) #[.bool (sgnZ z), .slice A1 (len (magZ z)) c1] := (by rw [hp]; repeat' (first | (with_reducible exact B_n) | (with_reducible refine Bx.alloc ?_ _) | (with_reducible refine Bx.drewN ?_ _) | (with_reducible refine Bx.drew ?_) | refine Bx.far ?_ (by first | assumption | (simp <;> done) | (simp; omega) | omega) _))
  replace B_l : Bx p4 (w2.heap.size + 1) #[.int .i64 1] := (by rw [hp]; repeat' (first | (with_reducible exact B_l) | (with_reducible refine Bx.alloc ?_ _) | (with_reducible refine Bx.drewN ?_ _) | (with_reducible refine Bx.drew ?_) | refine Bx.far ?_ (by first | assumption | (simp <;> done) | (simp; omega) | omega) _))
  replace r1 := Row.at r1 p4 (by rw [hp]; repeat' (first | (with_reducible exact r1) | (with_reducible refine Row.alloc' ?_ _) | (with_reducible refine Row.drewN ?_ _) | (with_reducible refine Row.drew' ?_) | refine Row.far_off ?_ (by assumption) _ | refine Row.far_set ?_ (by first | (simp <;> done) | (simp; omega) | omega) _))
  replace rl := Row.at rl p4 (by rw [hp]; repeat' (first | (with_reducible exact rl) | (with_reducible refine Row.alloc' ?_ _) | (with_reducible refine Row.drewN ?_ _) | (with_reducible refine Row.drew' ?_) | refine Row.far_off ?_ (by assumption) _ | refine Row.far_set ?_ (by first | (simp <;> done) | (simp; omega) | omega) _))
  have zp4 : p3.heap.size ≤ p4.heap.size := (by rw [hp]; exact leA)
  clear hp O
  have O := O'
  clear O'
  refine (specNat_c sB d true _ HQ.out HD.out HU.out).mono ?_
  rintro e w4 ⟨⟨A2, c2, rfl, r2⟩, o4⟩
  replace B_r := Bx.old B_r o4
  replace B_n := Bx.old B_n o4
  replace B_l := Bx.old B_l o4
  replace r1 := Row.below r1 o4 (Nat.le_refl _)
  replace rl := Row.below rl o4 (Nat.le_refl _)
  replace O := Old.trans O o4
  have zw4 := o4.size
  replace r2 := Row.more (lo' := p4.heap.size) r2 leA
  have lim_r2 := Row.lim r2
  have q_r_0 := B_r.cell 0 rfl
  have q_r_1 := B_r.cell 1 rfl
  have q_r_2 := B_r.cell 2 rfl
  have f_r_0 := B_r.frozen 0
  have f_r_1 := B_r.frozen 1
  have f_r_2 := B_r.frozen 2
  have q_r := B_r.lt
  have q_n_0 := B_n.cell 0 rfl
  have q_n_1 := B_n.cell 1 rfl
  have f_n_0 := B_n.frozen 0
  have f_n_1 := B_n.frozen 1
  have q_n := B_n.lt
  have q_l_0 := B_l.cell 0 rfl
  have f_l_0 := B_l.frozen 0
  have q_l := B_l.lt
  go_wp2_with fail
  refine callsNamed ?_
  intro p5 hp
  clear q_r_0 q_r_1 q_r_2 f_r_0 f_r_1 f_r_2 q_r q_n_0 q_n_1 f_n_0 f_n_1 q_n q_l_0 f_l_0 q_l
  have O' : Old w p5 := (by rw [hp]; exact Below.trans (b := w4) O oldB)
  replace B_r : Bx p5 (w.heap.size) #[.bool false, .slice none 0 0, .slice none 0 0] := (by rw [hp]; repeat' (first | (with_reducible exact B_r) | (with_reducible refine Bx.alloc ?_ _) | (with_reducible refine Bx.drewN ?_ _) | (with_reducible refine Bx.drew ?_) | refine Bx.far ?_ (by first | assumption | (simp <;> done) | (simp; omega) | omega) _))
  replace B_n : Bx p5 (w2.heap.size) #[.bool (sgnZ z), .slice A1 (len (magZ z)) c1] := (by rw [hp]; repeat' (first | (with_reducible exact B_n) | (with_reducible refine Bx.alloc ?_ _) | (with_reducible refine Bx.drewN ?_ _) | (with_reducible refine Bx.drew ?_) | refine Bx.far ?_ (by first | assumption | (simp <;> done) | (simp; omega) | omega) _))
  replace B_l : Bx p5 (w2.heap.size + 1) #[.int .i64 1] := (by rw [hp]; repeat' (first | (with_reducible exact B_l) | (with_reducible refine Bx.alloc ?_ _) | (with_reducible refine Bx.drewN ?_ _) | (with_reducible refine Bx.drew ?_) | refine Bx.far ?_ (by first | assumption | (simp <;> done) | (simp; omega) | omega) _))
  replace r1 := Row.at r1 p5 (by rw [hp]; repeat' (first | (with_reducible exact r1) | (with_reducible refine Row.alloc' ?_ _) | (with_reducible refine Row.drewN ?_ _) | (with_reducible refine Row.drew' ?_) | refine Row.far_off ?_ (by assumption) _ | refine Row.far_set ?_ (by first | (simp <;> done) | (simp; omega) | omega) _))
  replace rl := Row.at rl p5 (by rw [hp]; repeat' (first | (with_reducible exact rl) | (with_reducible refine Row.alloc' ?_ _) | (with_reducible refine Row.drewN ?_ _) | (with_reducible refine Row.drew' ?_) | refine Row.far_off ?_ (by assumption) _ | refine Row.far_set ?_ (by first | (simp <;> done) | (simp; omega) | omega) _))
  replace r2 := Row.at r2 p5 (by rw [hp]; repeat' (first | (with_reducible exact r2) | (with_reducible refine Row.alloc' ?_ _) | (with_reducible refine Row.drewN ?_ _) | (with_reducible refine Row.drew' ?_) | refine Row.far_off ?_ (by assumption) _ | refine Row.far_set ?_ (by first | (simp <;> done) | (simp; omega) | omega) _))
  have B_q : Bx p5 (w4.heap.size) #[.bool (sgnZ z), .slice A1 (len (magZ z)) c1, .slice A2 (len d) c2] := (by rw [hp]; repeat' (first | (exact Bx.newAt3 (by first | rfl | (simp <;> done))) | (exact Bx.put3 (Bx.newAt3 (by first | rfl | (simp <;> done))) _ _ _) | (with_reducible refine Bx.alloc ?_ _) | (with_reducible refine Bx.drewN ?_ _) | (with_reducible refine Bx.drew ?_) | refine Bx.far ?_ (by first | assumption | (simp <;> done) | (simp; omega) | omega) _))
  have lt_q := B_q.lt
  have ne_q_r : ¬ (w4.heap.size = w.heap.size) := by omega
  have en_q_r : ¬ (w.heap.size = w4.heap.size) := by omega
  have ne_q_n : ¬ (w4.heap.size = w2.heap.size) := by omega
  have en_q_n : ¬ (w2.heap.size = w4.heap.size) := by omega
  have ne_q_l : ¬ (w4.heap.size = w2.heap.size + 1) := by omega
  have en_q_l : ¬ (w2.heap.size + 1 = w4.heap.size) := by omega
  have zp5 : w4.heap.size ≤ p5.heap.size := (by rw [hp]; exact leA)
  clear hp O
  have O := O'
  clear O'
  refine (spec_FormatRat (sgnZ z) A1 (len (magZ z)) c1 _ (digI (magZ z)) A2 (len d) c2 _ (digI d) _ r1 r2 (by omega) (by omega)).mono ?_
  rintro e w5 ⟨he, o5⟩
  replace B_r := Bx.old B_r o5
  replace B_n := Bx.old B_n o5
  replace B_l := Bx.old B_l o5
  replace B_q := Bx.old B_q o5
  replace r1 := Row.below r1 o5 (Nat.le_refl _)
  replace rl := Row.below rl o5 (Nat.le_refl _)
  replace r2 := Row.below r2 o5 (Nat.le_refl _)
  replace O := Old.trans O o5
  have zw5 := o5.size
  rw [show rFormatRat (sgnZ z) (len (magZ z)) (digI (magZ z)) (len d) (digI d) = txQ z d from if_pos K3.out] at he
  subst he
  have q_r_0 := B_r.cell 0 rfl
  have q_r_1 := B_r.cell 1 rfl
  have q_r_2 := B_r.cell 2 rfl
  have f_r_0 := B_r.frozen 0
  have f_r_1 := B_r.frozen 1
  have f_r_2 := B_r.frozen 2
  have q_r := B_r.lt
  have q_n_0 := B_n.cell 0 rfl
  have q_n_1 := B_n.cell 1 rfl
  have f_n_0 := B_n.frozen 0
  have f_n_1 := B_n.frozen 1
  have q_n := B_n.lt
  have q_l_0 := B_l.cell 0 rfl
  have f_l_0 := B_l.frozen 0
  have q_l := B_l.lt
  have q_q_0 := B_q.cell 0 rfl
  have q_q_1 := B_q.cell 1 rfl
  have q_q_2 := B_q.cell 2 rfl
  have f_q_0 := B_q.frozen 0
  have f_q_1 := B_q.frozen 1
  have f_q_2 := B_q.frozen 2
  have q_q := B_q.lt
  go_wp2_with fail
  refine callsNamed ?_
  intro p6 hp
  clear q_r_0 q_r_1 q_r_2 f_r_0 f_r_1 f_r_2 q_r q_n_0 q_n_1 f_n_0 f_n_1 q_n q_l_0 f_l_0 q_l q_q_0 q_q_1 q_q_2 f_q_0 f_q_1 f_q_2 q_q
  have O' : Old w p6 := (by rw [hp]; exact Below.trans (b := w5) O oldB)
  replace B_r : Bx p6 (w.heap.size) #[.bool false, .slice none 0 0, .slice none 0 0] := (by rw [hp]; repeat' (first | (with_reducible exact B_r) | (with_reducible refine Bx.alloc ?_ _) | (with_reducible refine Bx.drewN ?_ _) | (with_reducible refine Bx.drew ?_) | refine Bx.far ?_ (by first | assumption | (simp <;> done) | (simp; omega) | omega) _))
  replace B_n : Bx p6 (w2.heap.size) #[.bool (sgnZ z), .slice A1 (len (magZ z)) c1] := (by rw [hp]; repeat' (first | (with_reducible exact B_n) | (with_reducible refine Bx.alloc ?_ _) | (with_reducible refine Bx.drewN ?_ _) | (with_reducible refine Bx.drew ?_) | refine Bx.far ?_ (by first | assumption | (simp <;> done) | (simp; omega) | omega) _))
  replace B_l : Bx p6 (w2.heap.size + 1) #[.int .i64 1] := (by rw [hp]; repeat' (first | (with_reducible exact B_l) | (with_reducible refine Bx.alloc ?_ _) | (with_reducible refine Bx.drewN ?_ _) | (with_reducible refine Bx.drew ?_) | refine Bx.far ?_ (by first | assumption | (simp <;> done) | (simp; omega) | omega) _))
  replace B_q : Bx p6 (w4.heap.size) #[.bool (sgnZ z), .slice A1 (len (magZ z)) c1, .slice A2 (len d) c2] := (by rw [hp]; repeat' (first | (with_reducible exact B_q) | (with_reducible refine Bx.alloc ?_ _) | (with_reducible refine Bx.drewN ?_ _) | (with_reducible refine Bx.drew ?_) | refine Bx.far ?_ (by first | assumption | (simp <;> done) | (simp; omega) | omega) _))
  replace r1 := Row.at r1 p6 (by rw [hp]; repeat' (first | (with_reducible exact r1) | (with_reducible refine Row.alloc' ?_ _) | (with_reducible refine Row.drewN ?_ _) | (with_reducible refine Row.drew' ?_) | refine Row.far_off ?_ (by assumption) _ | refine Row.far_set ?_ (by first | (simp <;> done) | (simp; omega) | omega) _))
  replace rl := Row.at rl p6 (by rw [hp]; repeat' (first | (with_reducible exact rl) | (with_reducible refine Row.alloc' ?_ _) | (with_reducible refine Row.drewN ?_ _) | (with_reducible refine Row.drew' ?_) | refine Row.far_off ?_ (by assumption) _ | refine Row.far_set ?_ (by first | (simp <;> done) | (simp; omega) | omega) _))
  replace r2 := Row.at r2 p6 (by rw [hp]; repeat' (first | (with_reducible exact r2) | (with_reducible refine Row.alloc' ?_ _) | (with_reducible refine Row.drewN ?_ _) | (with_reducible refine Row.drew' ?_) | refine Row.far_off ?_ (by assumption) _ | refine Row.far_set ?_ (by first | (simp <;> done) | (simp; omega) | omega) _))
  have zp6 : w5.heap.size ≤ p6.heap.size := (by rw [hp]; exact leA)
  clear hp O
  have O := O'
  clear O'
  refine (spec_FormatRat (sgnZ z) A1 (len (magZ z)) c1 _ (digI (magZ z)) A2 (len d) c2 _ (digI d) _ r1 r2 (by omega) (by omega)).mono ?_
  rintro e w6 ⟨he, o6⟩
  replace B_r := Bx.old B_r o6
  replace B_n := Bx.old B_n o6
  replace B_l := Bx.old B_l o6
  replace B_q := Bx.old B_q o6
  replace r1 := Row.below r1 o6 (Nat.le_refl _)
  replace rl := Row.below rl o6 (Nat.le_refl _)
  replace r2 := Row.below r2 o6 (Nat.le_refl _)
  replace O := Old.trans O o6
  have zw6 := o6.size
  rw [show rFormatRat (sgnZ z) (len (magZ z)) (digI (magZ z)) (len d) (digI d) = txQ z d from if_pos K3.out] at he
  subst he
  have q_r_0 := B_r.cell 0 rfl
  have q_r_1 := B_r.cell 1 rfl
  have q_r_2 := B_r.cell 2 rfl
  have f_r_0 := B_r.frozen 0
  have f_r_1 := B_r.frozen 1
  have f_r_2 := B_r.frozen 2
  have q_r := B_r.lt
  have q_n_0 := B_n.cell 0 rfl
  have q_n_1 := B_n.cell 1 rfl
  have f_n_0 := B_n.frozen 0
  have f_n_1 := B_n.frozen 1
  have q_n := B_n.lt
  have q_l_0 := B_l.cell 0 rfl
  have f_l_0 := B_l.frozen 0
  have q_l := B_l.lt
  have q_q_0 := B_q.cell 0 rfl
  have q_q_1 := B_q.cell 1 rfl
  have q_q_2 := B_q.cell 2 rfl
  have f_q_0 := B_q.frozen 0
  have f_q_1 := B_q.frozen 1
  have f_q_2 := B_q.frozen 2
  have q_q := B_q.lt
  go_wp2
  refine bodyPost_ret (v := .tuple #[.agg #[.bool false, .slice none 0 0, .slice none 0 0], .bool false]) (by simp [results, Tryz.results5, go_sem, q_r_0, q_r_1, q_r_2]) rfl ⟨RetRB.zero rfl, Below.trans (b := w6) O oldB⟩
set_option maxRecDepth 100000 in
set_option maxHeartbeats 8000000 in
theorem spec_ParseRat_cut_yes (s : ByteArray) (z : Int) (w : World) (b : s.size ≤ 1048576) (sA sB : ByteArray) (d : Nat) (b1 b2 : Bool) (l : List ByteArray) (hsp : rSplitAny s ⟨#[47]⟩ = sA :: sB :: l) (hz : zParseBigInt sA = z) (ht : rParseBigInt1 sA = b1) (hd : rParseNat sB = d) (hu : rParseNat1 sB = b2) (k1 : b1 = true) (k2 : b2 = true) (k3 : okR (sgnZ z) (len (magZ z)) (digI (magZ z)) (len d) (digI d)) (k4 : txQ z d = s) (k5 : ¬ s.size = 0) :
    Calls Tryz.prog 5 #[.string s] w fun e w' => RetRB e w' w.heap.size (z, d) true ∧ Old w w' := by
  subst k1
  subst k2
  have hlz : len (magZ z) ≤ 60 := by rw [← hz]; exact zParseBigInt_len _
  have HZ := Lib.hid hz
  have HT := Lib.hid ht
  clear hz ht
  have hld : len d ≤ 60 := by rw [← hd]; exact rParseNat_len _
  have HD := Lib.hid hd
  have HU := Lib.hid hu
  clear hd hu
  have HP : Hid (sA.size ≤ maxLen) := Lib.hid (by have := Nat.le_trans (piecesQ (s := s) (y := ⟨#[47]⟩) (p := sA) (by rw [hsp]; simp)) b; unfold maxLen; omega)
  have HQ : Hid (sB.size ≤ maxLen) := Lib.hid (by have := Nat.le_trans (piecesQ (s := s) (y := ⟨#[47]⟩) (p := sB) (by rw [hsp]; simp)) b; unfold maxLen; omega)
  obtain ⟨L, hL⟩ : ∃ L, L = (rSplitAny s ⟨#[47]⟩).length := ⟨_, rfl⟩
  have hL2 : 2 ≤ L := by rw [hL, hsp]; simp
  have hLm : L ≤ 1048577 := by rw [hL]; have := rSplitAny_len s ⟨#[47]⟩; omega
  have HL := Lib.hid hL
  have G0 : Hid ((rSplitAny s ⟨#[47]⟩).getD 0 ByteArray.empty = sA) := Lib.hid (by rw [hsp]; rfl)
  have G1 : Hid ((rSplitAny s ⟨#[47]⟩).getD 1 ByteArray.empty = sB) := Lib.hid (by rw [hsp]; rfl)
  clear hsp hL
  have K3 := Lib.hid k3
  clear k3
  have K4 := Lib.hid k4
  clear k4
  have hem := text_ne k5
  clear k5
  have O : Old w (w.alloc (.cells #[.bool false, .slice none 0 0, .slice none 0 0] 26)) := oldB
  have B_r : Bx (w.alloc (.cells #[.bool false, .slice none 0 0, .slice none 0 0] 26)) (w.heap.size) #[.bool false, .slice none 0 0, .slice none 0 0] := by have h := (Bx.new w #[.bool false, .slice none 0 0, .slice none 0 0] 26); simpa using h
  have ze : w.heap.size + 1 ≤ (w.alloc (.cells #[.bool false, .slice none 0 0, .slice none 0 0] 26)).heap.size := (by simp)
  go_enter Tryz.func5, Tryz.ntmps5
  go_wp2_with fail
  refine callsNamed ?_
  intro p1 hp
  have O' : Old w p1 := (by rw [hp]; exact Below.trans (b := (w.alloc (.cells #[.bool false, .slice none 0 0, .slice none 0 0] 26))) O oldB)
  replace B_r : Bx p1 (w.heap.size) #[.bool false, .slice none 0 0, .slice none 0 0] := (by rw [hp]; repeat' (first | (with_reducible exact B_r) | (with_reducible refine Bx.alloc ?_ _) | (with_reducible refine Bx.drewN ?_ _) | (with_reducible refine Bx.drew ?_) | refine Bx.far ?_ (by first | assumption | (simp <;> done) | (simp; omega) | omega) _))
  have zp1 : (w.alloc (.cells #[.bool false, .slice none 0 0, .slice none 0 0] 26)).heap.size ≤ p1.heap.size := (by rw [hp]; exact leA)
  clear hp O
  have O := O'
  clear O'
  refine (spec_SplitAny s ⟨#[47]⟩ _ b (by show 1 ≤ _; omega)).mono ?_
  rintro e w1 ⟨⟨A, c, rfl, R⟩, o1⟩
  replace B_r := Bx.old B_r o1
  replace O := Old.trans O o1
  have zw1 := o1.size
  replace R := strs_len R HL.out
  rw [← HL.out]
  obtain ⟨bb, ob, rfl, _, hbs, _, hc⟩ := R.2 (by omega)
  have hx0 : w1.cell? ⟨bb, ob, none⟩ = some (.string sA) := (hc 0 (by omega)).trans (congrArg (fun x => some (Value.string x)) G0.out)
  have HC1 : Hid (w1.cell? ⟨bb, ob + 1, none⟩ = some (.string sB)) := Lib.hid ((hc 1 (by omega)).trans (congrArg (fun x => some (Value.string x)) G1.out))
  clear hc R
  have q_r_0 := B_r.cell 0 rfl
  have q_r_1 := B_r.cell 1 rfl
  have q_r_2 := B_r.cell 2 rfl
  have f_r_0 := B_r.frozen 0
  have f_r_1 := B_r.frozen 1
  have f_r_2 := B_r.frozen 2
  have q_r := B_r.lt
  go_wp2_with fail
  refine callsNamed ?_
  intro p2 hp
  clear q_r_0 q_r_1 q_r_2 f_r_0 f_r_1 f_r_2 q_r
  have O' : Old w p2 := (by rw [hp]; exact Below.trans (b := w1) O oldB)
  replace B_r : Bx p2 (w.heap.size) #[.bool false, .slice none 0 0, .slice none 0 0] := (by rw [hp]; repeat' (first | (with_reducible exact B_r) | (with_reducible refine Bx.alloc ?_ _) | (with_reducible refine Bx.drewN ?_ _) | (with_reducible refine Bx.drew ?_) | refine Bx.far ?_ (by first | assumption | (simp <;> done) | (simp; omega) | omega) _))
  have zp2 : w1.heap.size ≤ p2.heap.size := (by rw [hp]; exact leA)
  have HX1 : Hid (p2.cell? ⟨bb, ob + 1, none⟩ = some (.string sB)) := Lib.hid (by rw [hp]; exact HC1.out)
  clear hp O
  have O := O'
  clear O'
  refine (specBig_c sA z true _ HP.out HZ.out HT.out).mono ?_
  rintro e w2 ⟨⟨A1, c1, rfl, r1⟩, o2⟩
  replace B_r := Bx.old B_r o2
  replace O := Old.trans O o2
  have zw2 := o2.size
  replace r1 := Row.more (lo' := p2.heap.size) r1 leA
  have lim_r1 := Row.lim r1
  clear hx0
  have HX2 := Lib.hid ((o2.cell (p := ⟨bb, ob + 1, none⟩) (Nat.lt_of_lt_of_le hbs zp2)).trans HX1.out)
  have hbs2 : bb < w2.heap.size := by omega
  have q_r_0 := B_r.cell 0 rfl
  have q_r_1 := B_r.cell 1 rfl
  have q_r_2 := B_r.cell 2 rfl
  have f_r_0 := B_r.frozen 0
  have f_r_1 := B_r.frozen 1
  have f_r_2 := B_r.frozen 2
  have q_r := B_r.lt
  go_upto_region 6 with fail
  refine wpNamed ?_
  intro p3 hp
  clear q_r_0 q_r_1 q_r_2 f_r_0 f_r_1 f_r_2 q_r
  have O' : Old w p3 := (by rw [hp]; exact Below.trans (b := w2) O oldB)
  replace B_r : Bx p3 (w.heap.size) #[.bool false, .slice none 0 0, .slice none 0 0] := (by rw [hp]; repeat' (first | (with_reducible exact B_r) | (with_reducible refine Bx.alloc ?_ _) | (with_reducible refine Bx.drewN ?_ _) | (with_reducible refine Bx.drew ?_) | refine Bx.far ?_ (by first | assumption | (simp <;> done) | (simp; omega) | omega) _))
  replace r1 := Row.at r1 p3 (by rw [hp]; repeat' (first | (with_reducible exact r1) | (with_reducible refine Row.alloc' ?_ _) | (with_reducible refine Row.drewN ?_ _) | (with_reducible refine Row.drew' ?_) | refine Row.far_off ?_ (by assumption) _ | refine Row.far_set ?_ (by first | (simp <;> done) | (simp; omega) | omega) _))
  have B_n : Bx p3 (w2.heap.size) #[.bool (sgnZ z), .slice A1 (len (magZ z)) c1] := (by rw [hp]; repeat' (first | (exact Bx.newAt3 (by first | rfl | (simp <;> done))) | (exact Bx.put2 (Bx.newAt3 (by first | rfl | (simp <;> done))) _ _) | (with_reducible refine Bx.alloc ?_ _) | (with_reducible refine Bx.drewN ?_ _) | (with_reducible refine Bx.drew ?_) | refine Bx.far ?_ (by first | assumption | (simp <;> done) | (simp; omega) | omega) _))
  have lt_n := B_n.lt
  have ne_n_r : ¬ (w2.heap.size = w.heap.size) := by omega
  have en_n_r : ¬ (w.heap.size = w2.heap.size) := by omega
  have B_l : Bx p3 (w2.heap.size + 1) #[.int .i64 1] := (by rw [hp]; repeat' (first | (exact Bx.newAt3 (by first | rfl | (simp <;> done))) | (with_reducible refine Bx.alloc ?_ _) | (with_reducible refine Bx.drewN ?_ _) | (with_reducible refine Bx.drew ?_) | refine Bx.far ?_ (by first | assumption | (simp <;> done) | (simp; omega) | omega) _))
  have lt_l := B_l.lt
  have ne_l_r : ¬ (w2.heap.size + 1 = w.heap.size) := by omega
  have en_l_r : ¬ (w.heap.size = w2.heap.size + 1) := by omega
  have ne_l_n : ¬ (w2.heap.size + 1 = w2.heap.size) := by omega
  have en_l_n : ¬ (w2.heap.size = w2.heap.size + 1) := by omega
  have hx1 : p3.cell? ⟨bb, ob + 1, none⟩ = some (.string sB) := (Below.cell (show Old w2 p3 from by rw [hp]; exact oldB) (p := ⟨bb, ob + 1, none⟩) hbs2).trans HX2.out
  have zp3 : w2.heap.size ≤ p3.heap.size := (by rw [hp]; exact leA)
  clear hp O
  have O := O'
  clear O'
  have rl := one_box B_l (lo := w2.heap.size) (by omega)
  have q_r_0 := B_r.cell 0 rfl
  have q_r_1 := B_r.cell 1 rfl
  have q_r_2 := B_r.cell 2 rfl
  have f_r_0 := B_r.frozen 0
  have f_r_1 := B_r.frozen 1
  have f_r_2 := B_r.frozen 2
  have q_r := B_r.lt
  have q_n_0 := B_n.cell 0 rfl
  have q_n_1 := B_n.cell 1 rfl
  have f_n_0 := B_n.frozen 0
  have f_n_1 := B_n.frozen 1
  have q_n := B_n.lt
  have q_l_0 := B_l.cell 0 rfl
  have f_l_0 := B_l.frozen 0
  have q_l := B_l.lt
  go_wp2_with fail
  refine callsNamed ?_
  intro p4 hp
  clear q_r_0 q_r_1 q_r_2 f_r_0 f_r_1 f_r_2 q_r q_n_0 q_n_1 f_n_0 f_n_1 q_n q_l_0 f_l_0 q_l
  have O' : Old w p4 := (by rw [hp]; exact Below.trans (b := p3) O oldB)
  replace B_r : Bx p4 (w.heap.size) #[.bool false, .slice none 0 0, .slice none 0 0] := (by rw [hp]; repeat' (first | (with_reducible exact B_r) | (with_reducible refine Bx.alloc ?_ _) | (with_reducible refine Bx.drewN ?_ _) | (with_reducible refine Bx.drew ?_) | refine Bx.far ?_ (by first | assumption | (simp <;> done) | (simp; omega) | omega) _))
  replace B_n : Bx p4 (w2.heap.size) #[.bool (sgnZ z), .slice A1 (len (magZ z)) c1] := (by rw [hp]; repeat' (first | (with_reducible exact B_n) | (with_reducible refine Bx.alloc ?_ _) | (with_reducible refine Bx.drewN ?_ _) | (with_reducible refine Bx.drew ?_) | refine Bx.far ?_ (by first | assumption | (simp <;> done) | (simp; omega) | omega) _))
  replace B_l : Bx p4 (w2.heap.size + 1) #[.int .i64 1] := (by rw [hp]; repeat' (first | (with_reducible exact B_l) | (with_reducible refine Bx.alloc ?_ _) | (with_reducible refine Bx.drewN ?_ _) | (with_reducible refine Bx.drew ?_) | refine Bx.far ?_ (by first | assumption | (simp <;> done) | (simp; omega) | omega) _))
  replace r1 := Row.at r1 p4 (by rw [hp]; repeat' (first | (with_reducible exact r1) | (with_reducible refine Row.alloc' ?_ _) | (with_reducible refine Row.drewN ?_ _) | (with_reducible refine Row.drew' ?_) | refine Row.far_off ?_ (by assumption) _ | refine Row.far_set ?_ (by first | (simp <;> done) | (simp; omega) | omega) _))
  replace rl := Row.at rl p4 (by rw [hp]; repeat' (first | (with_reducible exact rl) | (with_reducible refine Row.alloc' ?_ _) | (with_reducible refine Row.drewN ?_ _) | (with_reducible refine Row.drew' ?_) | refine Row.far_off ?_ (by assumption) _ | refine Row.far_set ?_ (by first | (simp <;> done) | (simp; omega) | omega) _))
  have zp4 : p3.heap.size ≤ p4.heap.size := (by rw [hp]; exact leA)
  clear hp O
  have O := O'
  clear O'
  refine (specNat_c sB d true _ HQ.out HD.out HU.out).mono ?_
  rintro e w4 ⟨⟨A2, c2, rfl, r2⟩, o4⟩
  replace B_r := Bx.old B_r o4
  replace B_n := Bx.old B_n o4
  replace B_l := Bx.old B_l o4
  replace r1 := Row.below r1 o4 (Nat.le_refl _)
  replace rl := Row.below rl o4 (Nat.le_refl _)
  replace O := Old.trans O o4
  have zw4 := o4.size
  replace r2 := Row.more (lo' := p4.heap.size) r2 leA
  have lim_r2 := Row.lim r2
  have q_r_0 := B_r.cell 0 rfl
  have q_r_1 := B_r.cell 1 rfl
  have q_r_2 := B_r.cell 2 rfl
  have f_r_0 := B_r.frozen 0
  have f_r_1 := B_r.frozen 1
  have f_r_2 := B_r.frozen 2
  have q_r := B_r.lt
  have q_n_0 := B_n.cell 0 rfl
  have q_n_1 := B_n.cell 1 rfl
  have f_n_0 := B_n.frozen 0
  have f_n_1 := B_n.frozen 1
  have q_n := B_n.lt
  have q_l_0 := B_l.cell 0 rfl
  have f_l_0 := B_l.frozen 0
  have q_l := B_l.lt
  go_wp2_with fail
  refine callsNamed ?_
  intro p5 hp
  clear q_r_0 q_r_1 q_r_2 f_r_0 f_r_1 f_r_2 q_r q_n_0 q_n_1 f_n_0 f_n_1 q_n q_l_0 f_l_0 q_l
  have O' : Old w p5 := (by rw [hp]; exact Below.trans (b := w4) O oldB)
  replace B_r : Bx p5 (w.heap.size) #[.bool false, .slice none 0 0, .slice none 0 0] := (by rw [hp]; repeat' (first | (with_reducible exact B_r) | (with_reducible refine Bx.alloc ?_ _) | (with_reducible refine Bx.drewN ?_ _) | (with_reducible refine Bx.drew ?_) | refine Bx.far ?_ (by first | assumption | (simp <;> done) | (simp; omega) | omega) _))
  replace B_n : Bx p5 (w2.heap.size) #[.bool (sgnZ z), .slice A1 (len (magZ z)) c1] := (by rw [hp]; repeat' (first | (with_reducible exact B_n) | (with_reducible refine Bx.alloc ?_ _) | (with_reducible refine Bx.drewN ?_ _) | (with_reducible refine Bx.drew ?_) | refine Bx.far ?_ (by first | assumption | (simp <;> done) | (simp; omega) | omega) _))
  replace B_l : Bx p5 (w2.heap.size + 1) #[.int .i64 1] := (by rw [hp]; repeat' (first | (with_reducible exact B_l) | (with_reducible refine Bx.alloc ?_ _) | (with_reducible refine Bx.drewN ?_ _) | (with_reducible refine Bx.drew ?_) | refine Bx.far ?_ (by first | assumption | (simp <;> done) | (simp; omega) | omega) _))
  replace r1 := Row.at r1 p5 (by rw [hp]; repeat' (first | (with_reducible exact r1) | (with_reducible refine Row.alloc' ?_ _) | (with_reducible refine Row.drewN ?_ _) | (with_reducible refine Row.drew' ?_) | refine Row.far_off ?_ (by assumption) _ | refine Row.far_set ?_ (by first | (simp <;> done) | (simp; omega) | omega) _))
  replace rl := Row.at rl p5 (by rw [hp]; repeat' (first | (with_reducible exact rl) | (with_reducible refine Row.alloc' ?_ _) | (with_reducible refine Row.drewN ?_ _) | (with_reducible refine Row.drew' ?_) | refine Row.far_off ?_ (by assumption) _ | refine Row.far_set ?_ (by first | (simp <;> done) | (simp; omega) | omega) _))
  replace r2 := Row.at r2 p5 (by rw [hp]; repeat' (first | (with_reducible exact r2) | (with_reducible refine Row.alloc' ?_ _) | (with_reducible refine Row.drewN ?_ _) | (with_reducible refine Row.drew' ?_) | refine Row.far_off ?_ (by assumption) _ | refine Row.far_set ?_ (by first | (simp <;> done) | (simp; omega) | omega) _))
  have B_q : Bx p5 (w4.heap.size) #[.bool (sgnZ z), .slice A1 (len (magZ z)) c1, .slice A2 (len d) c2] := (by rw [hp]; repeat' (first | (exact Bx.newAt3 (by first | rfl | (simp <;> done))) | (exact Bx.put3 (Bx.newAt3 (by first | rfl | (simp <;> done))) _ _ _) | (with_reducible refine Bx.alloc ?_ _) | (with_reducible refine Bx.drewN ?_ _) | (with_reducible refine Bx.drew ?_) | refine Bx.far ?_ (by first | assumption | (simp <;> done) | (simp; omega) | omega) _))
  have lt_q := B_q.lt
  have ne_q_r : ¬ (w4.heap.size = w.heap.size) := by omega
  have en_q_r : ¬ (w.heap.size = w4.heap.size) := by omega
  have ne_q_n : ¬ (w4.heap.size = w2.heap.size) := by omega
  have en_q_n : ¬ (w2.heap.size = w4.heap.size) := by omega
  have ne_q_l : ¬ (w4.heap.size = w2.heap.size + 1) := by omega
  have en_q_l : ¬ (w2.heap.size + 1 = w4.heap.size) := by omega
  have zp5 : w4.heap.size ≤ p5.heap.size := (by rw [hp]; exact leA)
  clear hp O
  have O := O'
  clear O'
  refine (spec_FormatRat (sgnZ z) A1 (len (magZ z)) c1 _ (digI (magZ z)) A2 (len d) c2 _ (digI d) _ r1 r2 (by omega) (by omega)).mono ?_
  rintro e w5 ⟨he, o5⟩
  replace B_r := Bx.old B_r o5
  replace B_n := Bx.old B_n o5
  replace B_l := Bx.old B_l o5
  replace B_q := Bx.old B_q o5
  replace r1 := Row.below r1 o5 (Nat.le_refl _)
  replace rl := Row.below rl o5 (Nat.le_refl _)
  replace r2 := Row.below r2 o5 (Nat.le_refl _)
  replace O := Old.trans O o5
  have zw5 := o5.size
  rw [show rFormatRat (sgnZ z) (len (magZ z)) (digI (magZ z)) (len d) (digI d) = txQ z d from if_pos K3.out, K4.out] at he
  subst he
  have q_r_0 := B_r.cell 0 rfl
  have q_r_1 := B_r.cell 1 rfl
  have q_r_2 := B_r.cell 2 rfl
  have f_r_0 := B_r.frozen 0
  have f_r_1 := B_r.frozen 1
  have f_r_2 := B_r.frozen 2
  have q_r := B_r.lt
  have q_n_0 := B_n.cell 0 rfl
  have q_n_1 := B_n.cell 1 rfl
  have f_n_0 := B_n.frozen 0
  have f_n_1 := B_n.frozen 1
  have q_n := B_n.lt
  have q_l_0 := B_l.cell 0 rfl
  have f_l_0 := B_l.frozen 0
  have q_l := B_l.lt
  have q_q_0 := B_q.cell 0 rfl
  have q_q_1 := B_q.cell 1 rfl
  have q_q_2 := B_q.cell 2 rfl
  have f_q_0 := B_q.frozen 0
  have f_q_1 := B_q.frozen 1
  have f_q_2 := B_q.frozen 2
  have q_q := B_q.lt
  go_wp2_with fail
  refine callsNamed ?_
  intro p6 hp
  clear q_r_0 q_r_1 q_r_2 f_r_0 f_r_1 f_r_2 q_r q_n_0 q_n_1 f_n_0 f_n_1 q_n q_l_0 f_l_0 q_l q_q_0 q_q_1 q_q_2 f_q_0 f_q_1 f_q_2 q_q
  have O' : Old w p6 := (by rw [hp]; exact Below.trans (b := w5) O oldB)
  replace B_r : Bx p6 (w.heap.size) #[.bool false, .slice none 0 0, .slice none 0 0] := (by rw [hp]; repeat' (first | (with_reducible exact B_r) | (with_reducible refine Bx.alloc ?_ _) | (with_reducible refine Bx.drewN ?_ _) | (with_reducible refine Bx.drew ?_) | refine Bx.far ?_ (by first | assumption | (simp <;> done) | (simp; omega) | omega) _))
  replace B_n : Bx p6 (w2.heap.size) #[.bool (sgnZ z), .slice A1 (len (magZ z)) c1] := (by rw [hp]; repeat' (first | (with_reducible exact B_n) | (with_reducible refine Bx.alloc ?_ _) | (with_reducible refine Bx.drewN ?_ _) | (with_reducible refine Bx.drew ?_) | refine Bx.far ?_ (by first | assumption | (simp <;> done) | (simp; omega) | omega) _))
  replace B_l : Bx p6 (w2.heap.size + 1) #[.int .i64 1] := (by rw [hp]; repeat' (first | (with_reducible exact B_l) | (with_reducible refine Bx.alloc ?_ _) | (with_reducible refine Bx.drewN ?_ _) | (with_reducible refine Bx.drew ?_) | refine Bx.far ?_ (by first | assumption | (simp <;> done) | (simp; omega) | omega) _))
  replace B_q : Bx p6 (w4.heap.size) #[.bool (sgnZ z), .slice A1 (len (magZ z)) c1, .slice A2 (len d) c2] := (by rw [hp]; repeat' (first | (with_reducible exact B_q) | (with_reducible refine Bx.alloc ?_ _) | (with_reducible refine Bx.drewN ?_ _) | (with_reducible refine Bx.drew ?_) | refine Bx.far ?_ (by first | assumption | (simp <;> done) | (simp; omega) | omega) _))
  replace r1 := Row.at r1 p6 (by rw [hp]; repeat' (first | (with_reducible exact r1) | (with_reducible refine Row.alloc' ?_ _) | (with_reducible refine Row.drewN ?_ _) | (with_reducible refine Row.drew' ?_) | refine Row.far_off ?_ (by assumption) _ | refine Row.far_set ?_ (by first | (simp <;> done) | (simp; omega) | omega) _))
  replace rl := Row.at rl p6 (by rw [hp]; repeat' (first | (with_reducible exact rl) | (with_reducible refine Row.alloc' ?_ _) | (with_reducible refine Row.drewN ?_ _) | (with_reducible refine Row.drew' ?_) | refine Row.far_off ?_ (by assumption) _ | refine Row.far_set ?_ (by first | (simp <;> done) | (simp; omega) | omega) _))
  replace r2 := Row.at r2 p6 (by rw [hp]; repeat' (first | (with_reducible exact r2) | (with_reducible refine Row.alloc' ?_ _) | (with_reducible refine Row.drewN ?_ _) | (with_reducible refine Row.drew' ?_) | refine Row.far_off ?_ (by assumption) _ | refine Row.far_set ?_ (by first | (simp <;> done) | (simp; omega) | omega) _))
  have zp6 : w5.heap.size ≤ p6.heap.size := (by rw [hp]; exact leA)
  clear hp O
  have O := O'
  clear O'
  refine (spec_FormatRat (sgnZ z) A1 (len (magZ z)) c1 _ (digI (magZ z)) A2 (len d) c2 _ (digI d) _ r1 r2 (by omega) (by omega)).mono ?_
  rintro e w6 ⟨he, o6⟩
  replace B_r := Bx.old B_r o6
  replace B_n := Bx.old B_n o6
  replace B_l := Bx.old B_l o6
  replace B_q := Bx.old B_q o6
  replace r1 := Row.below r1 o6 (Nat.le_refl _)
  replace rl := Row.below rl o6 (Nat.le_refl _)
  replace r2 := Row.below r2 o6 (Nat.le_refl _)
  replace O := Old.trans O o6
  have zw6 := o6.size
  rw [show rFormatRat (sgnZ z) (len (magZ z)) (digI (magZ z)) (len d) (digI d) = txQ z d from if_pos K3.out, K4.out] at he
  subst he
  have q_r_0 := B_r.cell 0 rfl
  have q_r_1 := B_r.cell 1 rfl
  have q_r_2 := B_r.cell 2 rfl
  have f_r_0 := B_r.frozen 0
  have f_r_1 := B_r.frozen 1
  have f_r_2 := B_r.frozen 2
  have q_r := B_r.lt
  have q_n_0 := B_n.cell 0 rfl
  have q_n_1 := B_n.cell 1 rfl
  have f_n_0 := B_n.frozen 0
  have f_n_1 := B_n.frozen 1
  have q_n := B_n.lt
  have q_l_0 := B_l.cell 0 rfl
  have f_l_0 := B_l.frozen 0
  have q_l := B_l.lt
  have q_q_0 := B_q.cell 0 rfl
  have q_q_1 := B_q.cell 1 rfl
  have q_q_2 := B_q.cell 2 rfl
  have f_q_0 := B_q.frozen 0
  have f_q_1 := B_q.frozen 1
  have f_q_2 := B_q.frozen 2
  have q_q := B_q.lt
  go_wp2
  refine bodyPost_ret (v := .tuple #[.agg #[.bool (sgnZ z), .slice A1 (len (magZ z)) c1, .slice A2 (len d) c2], .bool true]) (by simp [results, Tryz.results5, go_sem, q_r_0, q_r_1, q_r_2]) rfl ⟨⟨z, d, A1, c1, A2, c2, rfl, rfl, ?_, ?_, Apart.of lim_r1 r2 (by omega)⟩, ?_⟩
  · refine Row.more (lo := p2.heap.size) ?_ leA
    repeat' (first | (with_reducible exact r1) | (with_reducible refine Row.far_set ?_ (by first | (simp <;> done) | (simp; omega) | omega) _))
  · refine Row.more (lo := p4.heap.size) ?_ leA
    repeat' (first | (with_reducible exact r2) | (with_reducible refine Row.far_set ?_ (by first | (simp <;> done) | (simp; omega) | omega) _))
  · exact Below.trans (b := w6) O oldB
theorem spec_ParseRat (s : ByteArray) (w : World) (b : s.size ≤ 1048576) :
    Calls Tryz.prog 5 #[.string s] w fun e w' => RetRB e w' w.heap.size (vParseRat s) (rParseRat1 s) ∧ Old w w' := by
  by_cases hk : okQ s
  · obtain ⟨z, d, n1, p1, hs⟩ := hk
    have l1 := norm_len n1
    simp only at l1
    have hp := pq_is n1 p1 hs
    rw [hp.1, hp.2]
    have k3 := (okR_val n1).2 p1
    have hb := parse_big (z := z) (by omega)
    have hne : ¬ s.size = 0 := by rw [← hs]; exact txQ_ne n1
    by_cases e1 : d = 1
    · subst e1
      have hi := txZ_nocut (z := z) (by omega)
      rw [txQ_one] at hs
      rw [hs] at hi hb
      exact spec_ParseRat_one_yes s z w b s true (split_none hi) hb.1 hb.2 rfl k3 (by rw [txQ_one]; exact hs) hne
    · have hc := txQ_cut (z := z) (d := d) (by omega) (by omega) e1
      rw [hs] at hc
      have hn := parse_format (x := d) (by omega)
      exact spec_ParseRat_cut_yes s z w b (txZ z) (txN d) d true true [] hc.split hb.1 hb.2 hn.1 hn.2 rfl rfl k3 hs hne
  · have hp := pq_not hk
    rw [hp.1, hp.2]
    have hfin : ∀ (z : Int) (d : Nat), len (magZ z) ≤ 60 → len d ≤ 60 → okR (sgnZ z) (len (magZ z)) (digI (magZ z)) (len d) (digI d) → (¬ txQ z d = s) ∧ ¬ (txQ z d).size = 0 := by
      intro z d h1 h2 k
      have hv := val_of_okR h1 h2 k
      exact ⟨fun e => hk ⟨z, d, hv.1, hv.2, e⟩, txQ_ne hv.1⟩
    match hl : rSplitAny s ⟨#[47]⟩ with
    | [] =>
      have : (rSplitAny s ⟨#[47]⟩).length = 0 := by rw [hl]; rfl
      unfold rSplitAny at this
      simp at this
    | [q] =>
      cases h1 : rParseBigInt1 q with
      | false => exact spec_ParseRat_one_no1 s _ w b q false hl rfl h1 rfl
      | true =>
        by_cases k3 : okR (sgnZ (zParseBigInt q)) (len (magZ (zParseBigInt q))) (digI (magZ (zParseBigInt q))) (len 1) (digI 1)
        · have hf := hfin _ _ (zParseBigInt_len q) (by rw [one_len]; omega) k3
          exact spec_ParseRat_one_no4 s _ w b q true hl rfl h1 rfl k3 hf.1 hf.2
        · exact spec_ParseRat_one_no3 s _ w b q true hl rfl h1 rfl k3
    | q :: t :: l =>
      cases h1 : rParseBigInt1 q with
      | false => exact spec_ParseRat_cut_no1 s _ w b q t _ false (rParseNat1 t) l hl rfl h1 rfl rfl rfl
      | true =>
        cases h2 : rParseNat1 t with
        | false => exact spec_ParseRat_cut_no2 s _ w b q t _ true false l hl rfl h1 rfl h2 rfl rfl
        | true =>
          by_cases k3 : okR (sgnZ (zParseBigInt q)) (len (magZ (zParseBigInt q))) (digI (magZ (zParseBigInt q))) (len (rParseNat t)) (digI (rParseNat t))
          · have hf := hfin _ _ (zParseBigInt_len q) (rParseNat_len t) k3
            exact spec_ParseRat_cut_no4 s _ w b q t _ true true l hl rfl h1 rfl h2 rfl rfl k3 hf.1 hf.2
          · exact spec_ParseRat_cut_no3 s _ w b q t _ true true l hl rfl h1 rfl h2 rfl rfl k3
end Go.Proofs.YtgchbbjhdeobpaaGreatDoor
