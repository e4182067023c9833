import Derived.Test.YtgchbbjhdeobpaaGreatDoorParse
import Derived.Test.YtgchbbjhdeobpaaGreatDoorBigMake
import Derived.Test.YtgchbbjhdeobpaaGreatDoorShelf
import Derived.Test.YtgchbbjhdeobpaaGreatDoorBoxes
/-
  Big integers out of their text: both ParseBigInt's.
-/
namespace Go.Proofs.YtgchbbjhdeobpaaGreatDoor
set_option linter.unusedVariables false
open Go.RowKit Num
def negS (s : ByteArray) : Bool := Lib.hasPrefix s.data.toList [45]
def tS (s : ByteArray) : ByteArray := ⟨(Lib.trimPrefix s.data.toList [45]).toArray⟩
theorem neg_emp {s : ByteArray} (h : s.size = 0) : negS s = false ∧ tS s = s := by
  obtain rfl := text_empty h
  exact ⟨rfl, rfl⟩
theorem neg_at {s : ByteArray} (h : 0 < s.size) : negS s = decide ((s[0]).toNat = 45) := by
  obtain ⟨⟨l⟩⟩ := s
  cases l with
  | nil => exact absurd h (by show ¬ 0 < 0; omega)
  | cons a l =>
    show List.isPrefixOf [45] (a :: l) = decide (a.toNat = 45)
    simp only [List.isPrefixOf, Bool.and_true]
    rw [Bool.eq_iff_iff]
    simp only [beq_iff_eq, decide_eq_true_eq]
    constructor
    · intro e; rw [← e]; rfl
    · intro e; exact (UInt8.toNat_inj.1 (by rw [e]; rfl))
theorem tS_neg {s : ByteArray} (h : negS s = true) : tS s = s.extract 1 s.size := by
  have h' : Lib.hasPrefix s.data.toList [45] = true := h
  unfold tS Lib.trimPrefix
  rw [if_pos h', Lib.extract_eq]
  have e : (List.drop 1 s.data.toList).take (s.size - 1) = List.drop 1 s.data.toList := by
    apply List.take_of_length_le
    rw [List.length_drop, ← Lib.size_eq]
    exact Nat.le_refl _
  rw [e]
  rfl
theorem tS_pos {s : ByteArray} (h : negS s = false) : tS s = s := by
  unfold tS Lib.trimPrefix
  rw [if_neg (by rw [show Lib.hasPrefix s.data.toList [45] = negS s from rfl, h]; decide)]
theorem tS_size (s : ByteArray) : (tS s).size ≤ s.size := by
  cases h : negS s with
  | false => rw [tS_pos h]; exact Nat.le_refl _
  | true => rw [tS_neg h, ByteArray.size_extract]; omega
def okZ (s : ByteArray) : Prop := okN (tS s) ∧ (negS s = true → 0 < rParseNat (tS s))
open Classical in
noncomputable def zParseBigInt (s : ByteArray) : Int := if okZ s then signed (negS s) (rParseNat (tS s)) else 0
open Classical in
noncomputable def rParseBigInt1 (s : ByteArray) : Bool := decide (okZ s)
open Classical in
theorem zParse_yes {s : ByteArray} (k : okZ s) : zParseBigInt s = signed (negS s) (rParseNat (tS s)) ∧ rParseBigInt1 s = true := ⟨if_pos k, decide_eq_true k⟩
open Classical in
theorem zParse_no {s : ByteArray} (k : ¬ okZ s) : zParseBigInt s = 0 ∧ rParseBigInt1 s = false := ⟨if_neg k, decide_eq_false k⟩
theorem zParseBigInt_len (s : ByteArray) : len (magZ (zParseBigInt s)) ≤ 60 := by
  by_cases k : okZ s
  · rw [(zParse_yes k).1, mag_signed]; exact rParseNat_len _
  · rw [(zParse_no k).1]
    have : len (magZ 0) = 0 := len_zero
    omega
def RetBB (e : Ending) (w : World) (lo : Nat) (z : Int) (b : Bool) : Prop := ∃ A c, e = .returned (.tuple #[.agg #[.bool (sgnZ z), .slice A (len (magZ z)) c], .bool b]) ∧ NatS w lo A c (magZ z)
theorem RetBB.of {e : Ending} {w : World} {lo : Nat} {n : Bool} {V : Nat} {A : Option Addr} {c : Nat} (hn : n = true → 0 < V) (h : e = .returned (.tuple #[.agg #[.bool n, .slice A (len V) c], .bool true])) (r : NatS w lo A c V) : RetBB e w lo (signed n V) true := by
  have hs : sgnZ (signed n V) = n := by rw [sgn_signed]; cases n with
    | false => rfl
    | true => rw [decide_eq_true (hn rfl)]; rfl
  exact ⟨A, c, by rw [hs, mag_signed]; exact h, by rw [mag_signed]; exact r⟩
theorem cutPrefix_t (s t : ByteArray) (b : Bool) (w : World) (ht : tS s = t) (hb : negS s = b) :
    Calls Tryz.prog 56 #[.string s, .string ⟨#[45]⟩] w fun e w' => e = .returned (.tuple #[.string t, .bool b]) ∧ w = w' := by
  subst ht hb
  exact (Tryz.strings_CutPrefix s ⟨#[45]⟩ w).mono fun e w' h => ⟨h.1, h.2.symm⟩

set_option maxRecDepth 100000 in
set_option maxHeartbeats 1000000 in
theorem spec_ParseBigInt_emp_no (s : ByteArray) (V : Nat) (w : World) (b : s.size ≤ maxLen) (bt : (s).size ≤ maxLen) (hv : rParseNat (s) = V) (hb : rParseNat1 (s) = false) (hl : len V ≤ 60) (hs : s.size = 0) :
    Calls Tryz.prog 22 #[.string s] w fun e w' => e = .returned (.tuple #[.agg #[.bool false, .slice none 0 0], .bool false]) ∧ Old w w' := by
  have HV := Lib.hid hv
  have HB := Lib.hid hb
  clear hv hb
  unfold maxLen at b
  have he0 : ¬ 0 < s.size := by omega
  clear hs
  have O : Old w (w.alloc (.cells #[.bool false, .slice none 0 0] 24)) := oldA
  have B_r : Bx (w.alloc (.cells #[.bool false, .slice none 0 0] 24)) (w.heap.size) #[.bool false, .slice none 0 0] := by have h := (Bx.new w #[.bool false, .slice none 0 0] 24); simpa using h
  go_enter Tryz.func22, Tryz.ntmps22
  go_wp2_with fail
  refine (spec_ParseNat (s) _ bt).mono ?_
  rintro e w1 ⟨⟨A, c, he, r1⟩, o1⟩
  replace o1 : Old (w.alloc (.cells #[.bool false, .slice none 0 0] 24)) w1 := Below.trans (b := _) oldA (Below.mono o1 leA)
  replace B_r := Bx.old B_r o1
  replace O := Old.trans O o1
  have z1 : w.heap.size + 1 ≤ w1.heap.size := (by have h := o1.size; simp at h; omega)
  replace r1 := Row.more (lo' := w.heap.size + 1) r1 leA
  rw [HV.out, HB.out] at he
  rw [HV.out] at r1
  subst he
  have q_r_0 := B_r.cell 0 rfl
  have q_r_1 := B_r.cell 1 rfl
  have f_r_0 := B_r.frozen 0
  have f_r_1 := B_r.frozen 1
  have q_r := B_r.lt
  go_wp2
  refine bodyPost_ret (v := .tuple #[.agg #[.bool false, .slice none 0 0], .bool false]) (by simp [results, Tryz.results22, go_sem, q_r_0, q_r_1]) rfl ⟨rfl, oldA⟩
set_option maxRecDepth 100000 in
set_option maxHeartbeats 1000000 in
theorem spec_ParseBigInt_emp_ok (s : ByteArray) (V : Nat) (w : World) (b : s.size ≤ maxLen) (bt : (s).size ≤ maxLen) (hv : rParseNat (s) = V) (hb : rParseNat1 (s) = true) (hl : len V ≤ 60) (hs : s.size = 0) :
    Calls Tryz.prog 22 #[.string s] w fun e w' => RetBB e w' w.heap.size (signed false V) true ∧ Old w w' := by
  have HV := Lib.hid hv
  have HB := Lib.hid hb
  clear hv hb
  unfold maxLen at b
  have he0 : ¬ 0 < s.size := by omega
  clear hs
  have O : Old w (w.alloc (.cells #[.bool false, .slice none 0 0] 24)) := oldA
  have B_r : Bx (w.alloc (.cells #[.bool false, .slice none 0 0] 24)) (w.heap.size) #[.bool false, .slice none 0 0] := by have h := (Bx.new w #[.bool false, .slice none 0 0] 24); simpa using h
  go_enter Tryz.func22, Tryz.ntmps22
  go_wp2_with fail
  refine (spec_ParseNat (s) _ bt).mono ?_
  rintro e w1 ⟨⟨A, c, he, r1⟩, o1⟩
  replace o1 : Old (w.alloc (.cells #[.bool false, .slice none 0 0] 24)) w1 := Below.trans (b := _) oldA (Below.mono o1 leA)
  replace B_r := Bx.old B_r o1
  replace O := Old.trans O o1
  have z1 : w.heap.size + 1 ≤ w1.heap.size := (by have h := o1.size; simp at h; omega)
  replace r1 := Row.more (lo' := w.heap.size + 1) r1 leA
  rw [HV.out, HB.out] at he
  rw [HV.out] at r1
  subst he
  have q_r_0 := B_r.cell 0 rfl
  have q_r_1 := B_r.cell 1 rfl
  have f_r_0 := B_r.frozen 0
  have f_r_1 := B_r.frozen 1
  have q_r := B_r.lt
  go_wp2
  refine bodyPost_ret (v := .tuple #[.agg #[.bool false, .slice A (len V) c], .bool true]) (by simp [results, Tryz.results22, go_sem, q_r_0, q_r_1]) rfl ⟨RetBB.of (fun h => absurd h Bool.false_ne_true) rfl ?_, ?_⟩
  · refine Row.more (lo := w.heap.size + 1) ?_ leA
    repeat' (first | exact r1 | refine Row.far_set ?_ (by first | (simp <;> done) | (simp; omega) | omega) _)
  · exact oldA
set_option maxRecDepth 100000 in
set_option maxHeartbeats 1000000 in
theorem spec_ParseBigInt_pos_no (s : ByteArray) (V : Nat) (w : World) (b : s.size ≤ maxLen) (bt : (s).size ≤ maxLen) (hv : rParseNat (s) = V) (hb : rParseNat1 (s) = false) (hl : len V ≤ 60) (hs : 0 < s.size) (hc : ¬ (s[0]).toNat = 45) :
    Calls Tryz.prog 22 #[.string s] w fun e w' => e = .returned (.tuple #[.agg #[.bool false, .slice none 0 0], .bool false]) ∧ Old w w' := by
  have HV := Lib.hid hv
  have HB := Lib.hid hb
  clear hv hb
  unfold maxLen at b
  have hc1 : ((s[0].toNat : Int) == 45) = false := by simp; omega
  have hc2 : ¬ (s[0].toNat : Int) = 45 := by omega
  clear hc
  have O : Old w (w.alloc (.cells #[.bool false, .slice none 0 0] 24)) := oldA
  have B_r : Bx (w.alloc (.cells #[.bool false, .slice none 0 0] 24)) (w.heap.size) #[.bool false, .slice none 0 0] := by have h := (Bx.new w #[.bool false, .slice none 0 0] 24); simpa using h
  go_enter Tryz.func22, Tryz.ntmps22
  go_wp2_with fail
  refine (spec_ParseNat (s) _ bt).mono ?_
  rintro e w1 ⟨⟨A, c, he, r1⟩, o1⟩
  replace o1 : Old (w.alloc (.cells #[.bool false, .slice none 0 0] 24)) w1 := Below.trans (b := _) oldA (Below.mono o1 leA)
  replace B_r := Bx.old B_r o1
  replace O := Old.trans O o1
  have z1 : w.heap.size + 1 ≤ w1.heap.size := (by have h := o1.size; simp at h; omega)
  replace r1 := Row.more (lo' := w.heap.size + 1) r1 leA
  rw [HV.out, HB.out] at he
  rw [HV.out] at r1
  subst he
  have q_r_0 := B_r.cell 0 rfl
  have q_r_1 := B_r.cell 1 rfl
  have f_r_0 := B_r.frozen 0
  have f_r_1 := B_r.frozen 1
  have q_r := B_r.lt
  go_wp2
  refine bodyPost_ret (v := .tuple #[.agg #[.bool false, .slice none 0 0], .bool false]) (by simp [results, Tryz.results22, go_sem, q_r_0, q_r_1]) rfl ⟨rfl, oldA⟩
set_option maxRecDepth 100000 in
set_option maxHeartbeats 1000000 in
theorem spec_ParseBigInt_pos_ok (s : ByteArray) (V : Nat) (w : World) (b : s.size ≤ maxLen) (bt : (s).size ≤ maxLen) (hv : rParseNat (s) = V) (hb : rParseNat1 (s) = true) (hl : len V ≤ 60) (hs : 0 < s.size) (hc : ¬ (s[0]).toNat = 45) :
    Calls Tryz.prog 22 #[.string s] w fun e w' => RetBB e w' w.heap.size (signed false V) true ∧ Old w w' := by
  have HV := Lib.hid hv
  have HB := Lib.hid hb
  clear hv hb
  unfold maxLen at b
  have hc1 : ((s[0].toNat : Int) == 45) = false := by simp; omega
  have hc2 : ¬ (s[0].toNat : Int) = 45 := by omega
  clear hc
  have O : Old w (w.alloc (.cells #[.bool false, .slice none 0 0] 24)) := oldA
  have B_r : Bx (w.alloc (.cells #[.bool false, .slice none 0 0] 24)) (w.heap.size) #[.bool false, .slice none 0 0] := by have h := (Bx.new w #[.bool false, .slice none 0 0] 24); simpa using h
  go_enter Tryz.func22, Tryz.ntmps22
  go_wp2_with fail
  refine (spec_ParseNat (s) _ bt).mono ?_
  rintro e w1 ⟨⟨A, c, he, r1⟩, o1⟩
  replace o1 : Old (w.alloc (.cells #[.bool false, .slice none 0 0] 24)) w1 := Below.trans (b := _) oldA (Below.mono o1 leA)
  replace B_r := Bx.old B_r o1
  replace O := Old.trans O o1
  have z1 : w.heap.size + 1 ≤ w1.heap.size := (by have h := o1.size; simp at h; omega)
  replace r1 := Row.more (lo' := w.heap.size + 1) r1 leA
  rw [HV.out, HB.out] at he
  rw [HV.out] at r1
  subst he
  have q_r_0 := B_r.cell 0 rfl
  have q_r_1 := B_r.cell 1 rfl
  have f_r_0 := B_r.frozen 0
  have f_r_1 := B_r.frozen 1
  have q_r := B_r.lt
  go_wp2
  refine bodyPost_ret (v := .tuple #[.agg #[.bool false, .slice A (len V) c], .bool true]) (by simp [results, Tryz.results22, go_sem, q_r_0, q_r_1]) rfl ⟨RetBB.of (fun h => absurd h Bool.false_ne_true) rfl ?_, ?_⟩
  · refine Row.more (lo := w.heap.size + 1) ?_ leA
    repeat' (first | exact r1 | refine Row.far_set ?_ (by first | (simp <;> done) | (simp; omega) | omega) _)
  · exact oldA
set_option maxRecDepth 100000 in
set_option maxHeartbeats 1000000 in
theorem spec_ParseBigInt_neg_no (s : ByteArray) (V : Nat) (w : World) (b : s.size ≤ maxLen) (bt : (s.extract 1 s.size).size ≤ maxLen) (hv : rParseNat (s.extract 1 s.size) = V) (hb : rParseNat1 (s.extract 1 s.size) = false) (hl : len V ≤ 60) (hs : 0 < s.size) (hc : (s[0]).toNat = 45) :
    Calls Tryz.prog 22 #[.string s] w fun e w' => e = .returned (.tuple #[.agg #[.bool false, .slice none 0 0], .bool false]) ∧ Old w w' := by
  have HV := Lib.hid hv
  have HB := Lib.hid hb
  clear hv hb
  unfold maxLen at b
  have hc1 : ((s[0].toNat : Int) == 45) = true := by simp [hc]
  have hc2 : (s[0].toNat : Int) = 45 := by omega
  clear hc
  have O : Old w (w.alloc (.cells #[.bool false, .slice none 0 0] 24)) := oldA
  have B_r : Bx (w.alloc (.cells #[.bool false, .slice none 0 0] 24)) (w.heap.size) #[.bool false, .slice none 0 0] := by have h := (Bx.new w #[.bool false, .slice none 0 0] 24); simpa using h
  go_enter Tryz.func22, Tryz.ntmps22
  go_wp2_with fail
  refine (spec_ParseNat (s.extract 1 s.size) _ bt).mono ?_
  rintro e w1 ⟨⟨A, c, he, r1⟩, o1⟩
  replace o1 : Old (w.alloc (.cells #[.bool false, .slice none 0 0] 24)) w1 := Below.trans (b := _) oldA (Below.mono o1 leA)
  replace B_r := Bx.old B_r o1
  replace O := Old.trans O o1
  have z1 : w.heap.size + 1 ≤ w1.heap.size := (by have h := o1.size; simp at h; omega)
  replace r1 := Row.more (lo' := w.heap.size + 1) r1 leA
  rw [HV.out, HB.out] at he
  rw [HV.out] at r1
  subst he
  have q_r_0 := B_r.cell 0 rfl
  have q_r_1 := B_r.cell 1 rfl
  have f_r_0 := B_r.frozen 0
  have f_r_1 := B_r.frozen 1
  have q_r := B_r.lt
  go_wp2
  refine bodyPost_ret (v := .tuple #[.agg #[.bool false, .slice none 0 0], .bool false]) (by simp [results, Tryz.results22, go_sem, q_r_0, q_r_1]) rfl ⟨rfl, oldA⟩
set_option maxRecDepth 100000 in
set_option maxHeartbeats 1000000 in
theorem spec_ParseBigInt_neg_ok0 (s : ByteArray) (V : Nat) (w : World) (b : s.size ≤ maxLen) (bt : (s.extract 1 s.size).size ≤ maxLen) (hv : rParseNat (s.extract 1 s.size) = V) (hb : rParseNat1 (s.extract 1 s.size) = true) (hl : len V ≤ 60) (hs : 0 < s.size) (hc : (s[0]).toNat = 45) (h0 : V = 0) :
    Calls Tryz.prog 22 #[.string s] w fun e w' => e = .returned (.tuple #[.agg #[.bool false, .slice none 0 0], .bool false]) ∧ Old w w' := by
  have HV := Lib.hid hv
  have HB := Lib.hid hb
  clear hv hb
  unfold maxLen at b
  have hc1 : ((s[0].toNat : Int) == 45) = true := by simp [hc]
  have hc2 : (s[0].toNat : Int) = 45 := by omega
  clear hc
  have hz : (((len V : Nat) : Int) == 0) = true := by rw [h0, len_zero]; rfl
  clear h0
  have O : Old w (w.alloc (.cells #[.bool false, .slice none 0 0] 24)) := oldA
  have B_r : Bx (w.alloc (.cells #[.bool false, .slice none 0 0] 24)) (w.heap.size) #[.bool false, .slice none 0 0] := by have h := (Bx.new w #[.bool false, .slice none 0 0] 24); simpa using h
  go_enter Tryz.func22, Tryz.ntmps22
  go_wp2_with fail
  refine (spec_ParseNat (s.extract 1 s.size) _ bt).mono ?_
  rintro e w1 ⟨⟨A, c, he, r1⟩, o1⟩
  replace o1 : Old (w.alloc (.cells #[.bool false, .slice none 0 0] 24)) w1 := Below.trans (b := _) oldA (Below.mono o1 leA)
  replace B_r := Bx.old B_r o1
  replace O := Old.trans O o1
  have z1 : w.heap.size + 1 ≤ w1.heap.size := (by have h := o1.size; simp at h; omega)
  replace r1 := Row.more (lo' := w.heap.size + 1) r1 leA
  rw [HV.out, HB.out] at he
  rw [HV.out] at r1
  subst he
  have q_r_0 := B_r.cell 0 rfl
  have q_r_1 := B_r.cell 1 rfl
  have f_r_0 := B_r.frozen 0
  have f_r_1 := B_r.frozen 1
  have q_r := B_r.lt
  go_wp2
  refine bodyPost_ret (v := .tuple #[.agg #[.bool false, .slice none 0 0], .bool false]) (by simp [results, Tryz.results22, go_sem, q_r_0, q_r_1]) rfl ⟨rfl, oldA⟩
set_option maxRecDepth 100000 in
set_option maxHeartbeats 1000000 in
theorem spec_ParseBigInt_neg_ok (s : ByteArray) (V : Nat) (w : World) (b : s.size ≤ maxLen) (bt : (s.extract 1 s.size).size ≤ maxLen) (hv : rParseNat (s.extract 1 s.size) = V) (hb : rParseNat1 (s.extract 1 s.size) = true) (hl : len V ≤ 60) (hs : 0 < s.size) (hc : (s[0]).toNat = 45) (h0 : 0 < V) :
    Calls Tryz.prog 22 #[.string s] w fun e w' => RetBB e w' w.heap.size (signed true V) true ∧ Old w w' := by
  have HV := Lib.hid hv
  have HB := Lib.hid hb
  clear hv hb
  unfold maxLen at b
  have hc1 : ((s[0].toNat : Int) == 45) = true := by simp [hc]
  have hc2 : (s[0].toNat : Int) = 45 := by omega
  clear hc
  have hz : (((len V : Nat) : Int) == 0) = false := by have := len_pos_iff'.2 h0; simp; omega
  have H0 := Lib.hid h0
  clear h0
  have O : Old w (w.alloc (.cells #[.bool false, .slice none 0 0] 24)) := oldA
  have B_r : Bx (w.alloc (.cells #[.bool false, .slice none 0 0] 24)) (w.heap.size) #[.bool false, .slice none 0 0] := by have h := (Bx.new w #[.bool false, .slice none 0 0] 24); simpa using h
  go_enter Tryz.func22, Tryz.ntmps22
  go_wp2_with fail
  refine (spec_ParseNat (s.extract 1 s.size) _ bt).mono ?_
  rintro e w1 ⟨⟨A, c, he, r1⟩, o1⟩
  replace o1 : Old (w.alloc (.cells #[.bool false, .slice none 0 0] 24)) w1 := Below.trans (b := _) oldA (Below.mono o1 leA)
  replace B_r := Bx.old B_r o1
  replace O := Old.trans O o1
  have z1 : w.heap.size + 1 ≤ w1.heap.size := (by have h := o1.size; simp at h; omega)
  replace r1 := Row.more (lo' := w.heap.size + 1) r1 leA
  rw [HV.out, HB.out] at he
  rw [HV.out] at r1
  subst he
  have q_r_0 := B_r.cell 0 rfl
  have q_r_1 := B_r.cell 1 rfl
  have f_r_0 := B_r.frozen 0
  have f_r_1 := B_r.frozen 1
  have q_r := B_r.lt
  go_wp2
  refine bodyPost_ret (v := .tuple #[.agg #[.bool true, .slice A (len V) c], .bool true]) (by simp [results, Tryz.results22, go_sem, q_r_0, q_r_1]) rfl ⟨RetBB.of (fun _ => H0.out) rfl ?_, ?_⟩
  · refine Row.more (lo := w.heap.size + 1) ?_ leA
    repeat' (first | exact r1 | refine Row.far_set ?_ (by first | (simp <;> done) | (simp; omega) | omega) _)
  · exact oldA
set_option maxRecDepth 100000 in
set_option maxHeartbeats 1000000 in
theorem impl_ParseBigInt_pos_no (s : ByteArray) (t : ByteArray) (V : Nat) (w : World) (b : s.size ≤ maxLen) (bt : (t).size ≤ maxLen) (hv : rParseNat (t) = V) (hb : rParseNat1 (t) = false) (hl : len V ≤ 60) (ht : tS s = t) (hn : negS s = false) :
    Calls Tryz.prog 26 #[.string s] w fun e w' => e = .returned (.tuple #[.agg #[.bool false, .slice none 0 0], .bool false]) ∧ Old w w' := by
  have HV := Lib.hid hv
  have HB := Lib.hid hb
  clear hv hb
  have HT := Lib.hid ht
  have HN := Lib.hid hn
  clear ht hn
  have O : Old w (w.alloc (.cells #[.bool false, .slice none 0 0] 24)) := oldA
  have B_r : Bx (w.alloc (.cells #[.bool false, .slice none 0 0] 24)) (w.heap.size) #[.bool false, .slice none 0 0] := by have h := (Bx.new w #[.bool false, .slice none 0 0] 24); simpa using h
  go_enter Tryz.func26, Tryz.ntmps26
  go_wp2_with fail
  refine (cutPrefix_t s t false _ HT.out HN.out).mono ?_
  rintro e w1 ⟨rfl, rfl⟩
  go_wp2_with fail
  refine (impl_ParseNat t _ bt).mono ?_
  rintro e w1 ⟨⟨A, c, he, r1⟩, o1⟩
  replace o1 : Old (w.alloc (.cells #[.bool false, .slice none 0 0] 24)) w1 := Below.trans (b := _) oldA (Below.mono o1 leA)
  replace B_r := Bx.old B_r o1
  replace O := Old.trans O o1
  have z1 : w.heap.size + 1 ≤ w1.heap.size := (by have h := o1.size; simp at h; omega)
  replace r1 := Row.more (lo' := w.heap.size + 1) r1 leA
  rw [HV.out, HB.out] at he
  rw [HV.out] at r1
  subst he
  have q_r_0 := B_r.cell 0 rfl
  have q_r_1 := B_r.cell 1 rfl
  have f_r_0 := B_r.frozen 0
  have f_r_1 := B_r.frozen 1
  have q_r := B_r.lt
  go_wp2
  have E := Bx.alloc (Bx.put2 B_r (.bool false) (.slice none 0 0)) (.cells #[.bool false, .slice A (len V) c] 24)
  have hne1 := E.cell 0 rfl
  have hne2 := E.cell 1 rfl
  refine bodyPost_ret (v := .tuple #[.agg #[.bool false, .slice none 0 0], .bool false]) (by simp [results, Tryz.results26, go_sem, hne1, hne2]) rfl ⟨rfl, oldA⟩
set_option maxRecDepth 100000 in
set_option maxHeartbeats 1000000 in
theorem impl_ParseBigInt_pos_ok (s : ByteArray) (t : ByteArray) (V : Nat) (w : World) (b : s.size ≤ maxLen) (bt : (t).size ≤ maxLen) (hv : rParseNat (t) = V) (hb : rParseNat1 (t) = true) (hl : len V ≤ 60) (ht : tS s = t) (hn : negS s = false) :
    Calls Tryz.prog 26 #[.string s] w fun e w' => RetBB e w' w.heap.size (signed false V) true ∧ Old w w' := by
  have HV := Lib.hid hv
  have HB := Lib.hid hb
  clear hv hb
  have HT := Lib.hid ht
  have HN := Lib.hid hn
  clear ht hn
  have O : Old w (w.alloc (.cells #[.bool false, .slice none 0 0] 24)) := oldA
  have B_r : Bx (w.alloc (.cells #[.bool false, .slice none 0 0] 24)) (w.heap.size) #[.bool false, .slice none 0 0] := by have h := (Bx.new w #[.bool false, .slice none 0 0] 24); simpa using h
  go_enter Tryz.func26, Tryz.ntmps26
  go_wp2_with fail
  refine (cutPrefix_t s t false _ HT.out HN.out).mono ?_
  rintro e w1 ⟨rfl, rfl⟩
  go_wp2_with fail
  refine (impl_ParseNat t _ bt).mono ?_
  rintro e w1 ⟨⟨A, c, he, r1⟩, o1⟩
  replace o1 : Old (w.alloc (.cells #[.bool false, .slice none 0 0] 24)) w1 := Below.trans (b := _) oldA (Below.mono o1 leA)
  replace B_r := Bx.old B_r o1
  replace O := Old.trans O o1
  have z1 : w.heap.size + 1 ≤ w1.heap.size := (by have h := o1.size; simp at h; omega)
  replace r1 := Row.more (lo' := w.heap.size + 1) r1 leA
  rw [HV.out, HB.out] at he
  rw [HV.out] at r1
  subst he
  have q_r_0 := B_r.cell 0 rfl
  have q_r_1 := B_r.cell 1 rfl
  have f_r_0 := B_r.frozen 0
  have f_r_1 := B_r.frozen 1
  have q_r := B_r.lt
  go_wp2_with fail
  refine (impl_BigIntOk_yes false A c V _ _ (Row.below (B := w1.heap.size) r1 oldA (Nat.le_refl _)) hl (fun h => absurd h Bool.false_ne_true)).mono ?_
  rintro e w2 ⟨rfl, o2⟩
  clear q_r_0 q_r_1 f_r_0 f_r_1 q_r
  have B_x : Bx w2 (w1.heap.size) #[.bool false, .slice A (len V) c] := Bx.old (Bx.new _ _ _) o2
  replace o2 : Old w1 w2 := Below.trans (b := _) oldA (Below.mono o2 leA)
  replace B_r := Bx.old B_r o2
  replace r1 := Row.below r1 o2 (Nat.le_refl _)
  replace O := Old.trans O o2
  have z2 := o2.size
  have q_r_0 := B_r.cell 0 rfl
  have q_r_1 := B_r.cell 1 rfl
  have f_r_0 := B_r.frozen 0
  have f_r_1 := B_r.frozen 1
  have q_r := B_r.lt
  have q_x_0 := B_x.cell 0 rfl
  have q_x_1 := B_x.cell 1 rfl
  have f_x_0 := B_x.frozen 0
  have f_x_1 := B_x.frozen 1
  have q_x := B_x.lt
  go_wp2
  refine bodyPost_ret (v := .tuple #[.agg #[.bool false, .slice A (len V) c], .bool true]) (by simp [results, Tryz.results26, go_sem, q_r_0, q_r_1]) rfl ⟨RetBB.of (fun h => absurd h Bool.false_ne_true) rfl ?_, ?_⟩
  · refine Row.more (lo := w.heap.size + 1) ?_ leA
    repeat' (first | exact r1 | refine Row.far_set ?_ (by first | (simp <;> done) | (simp; omega) | omega) _)
  · exact oldA
set_option maxRecDepth 100000 in
set_option maxHeartbeats 1000000 in
theorem impl_ParseBigInt_neg_no (s : ByteArray) (t : ByteArray) (V : Nat) (w : World) (b : s.size ≤ maxLen) (bt : (t).size ≤ maxLen) (hv : rParseNat (t) = V) (hb : rParseNat1 (t) = false) (hl : len V ≤ 60) (ht : tS s = t) (hn : negS s = true) :
    Calls Tryz.prog 26 #[.string s] w fun e w' => e = .returned (.tuple #[.agg #[.bool false, .slice none 0 0], .bool false]) ∧ Old w w' := by
  have HV := Lib.hid hv
  have HB := Lib.hid hb
  clear hv hb
  have HT := Lib.hid ht
  have HN := Lib.hid hn
  clear ht hn
  have O : Old w (w.alloc (.cells #[.bool false, .slice none 0 0] 24)) := oldA
  have B_r : Bx (w.alloc (.cells #[.bool false, .slice none 0 0] 24)) (w.heap.size) #[.bool false, .slice none 0 0] := by have h := (Bx.new w #[.bool false, .slice none 0 0] 24); simpa using h
  go_enter Tryz.func26, Tryz.ntmps26
  go_wp2_with fail
  refine (cutPrefix_t s t true _ HT.out HN.out).mono ?_
  rintro e w1 ⟨rfl, rfl⟩
  go_wp2_with fail
  refine (impl_ParseNat t _ bt).mono ?_
  rintro e w1 ⟨⟨A, c, he, r1⟩, o1⟩
  replace o1 : Old (w.alloc (.cells #[.bool false, .slice none 0 0] 24)) w1 := Below.trans (b := _) oldA (Below.mono o1 leA)
  replace B_r := Bx.old B_r o1
  replace O := Old.trans O o1
  have z1 : w.heap.size + 1 ≤ w1.heap.size := (by have h := o1.size; simp at h; omega)
  replace r1 := Row.more (lo' := w.heap.size + 1) r1 leA
  rw [HV.out, HB.out] at he
  rw [HV.out] at r1
  subst he
  have q_r_0 := B_r.cell 0 rfl
  have q_r_1 := B_r.cell 1 rfl
  have f_r_0 := B_r.frozen 0
  have f_r_1 := B_r.frozen 1
  have q_r := B_r.lt
  go_wp2
  have E := Bx.alloc (Bx.put2 B_r (.bool false) (.slice none 0 0)) (.cells #[.bool true, .slice A (len V) c] 24)
  have hne1 := E.cell 0 rfl
  have hne2 := E.cell 1 rfl
  refine bodyPost_ret (v := .tuple #[.agg #[.bool false, .slice none 0 0], .bool false]) (by simp [results, Tryz.results26, go_sem, hne1, hne2]) rfl ⟨rfl, oldA⟩
set_option maxRecDepth 100000 in
set_option maxHeartbeats 1000000 in
theorem impl_ParseBigInt_neg_ok0 (s : ByteArray) (t : ByteArray) (V : Nat) (w : World) (b : s.size ≤ maxLen) (bt : (t).size ≤ maxLen) (hv : rParseNat (t) = V) (hb : rParseNat1 (t) = true) (hl : len V ≤ 60) (ht : tS s = t) (hn : negS s = true) (h0 : V = 0) :
    Calls Tryz.prog 26 #[.string s] w fun e w' => e = .returned (.tuple #[.agg #[.bool false, .slice none 0 0], .bool false]) ∧ Old w w' := by
  have HV := Lib.hid hv
  have HB := Lib.hid hb
  clear hv hb
  have HT := Lib.hid ht
  have HN := Lib.hid hn
  clear ht hn
  have H0 := Lib.hid h0
  clear h0
  have O : Old w (w.alloc (.cells #[.bool false, .slice none 0 0] 24)) := oldA
  have B_r : Bx (w.alloc (.cells #[.bool false, .slice none 0 0] 24)) (w.heap.size) #[.bool false, .slice none 0 0] := by have h := (Bx.new w #[.bool false, .slice none 0 0] 24); simpa using h
  go_enter Tryz.func26, Tryz.ntmps26
  go_wp2_with fail
  refine (cutPrefix_t s t true _ HT.out HN.out).mono ?_
  rintro e w1 ⟨rfl, rfl⟩
  go_wp2_with fail
  refine (impl_ParseNat t _ bt).mono ?_
  rintro e w1 ⟨⟨A, c, he, r1⟩, o1⟩
  replace o1 : Old (w.alloc (.cells #[.bool false, .slice none 0 0] 24)) w1 := Below.trans (b := _) oldA (Below.mono o1 leA)
  replace B_r := Bx.old B_r o1
  replace O := Old.trans O o1
  have z1 : w.heap.size + 1 ≤ w1.heap.size := (by have h := o1.size; simp at h; omega)
  replace r1 := Row.more (lo' := w.heap.size + 1) r1 leA
  rw [HV.out, HB.out] at he
  rw [HV.out] at r1
  subst he
  have q_r_0 := B_r.cell 0 rfl
  have q_r_1 := B_r.cell 1 rfl
  have f_r_0 := B_r.frozen 0
  have f_r_1 := B_r.frozen 1
  have q_r := B_r.lt
  go_wp2_with fail
  refine (impl_BigIntOk_no true A (len V) c _ (digI V) _ (Row.below (B := w1.heap.size) r1 oldA (Nat.le_refl _)) (by omega) (fun h => by have h2 := h.2 rfl; rw [H0.out, len_zero] at h2; omega)).mono ?_
  rintro e w2 ⟨rfl, o2⟩
  clear q_r_0 q_r_1 f_r_0 f_r_1 q_r
  have B_x : Bx w2 (w1.heap.size) #[.bool true, .slice A (len V) c] := Bx.old (Bx.new _ _ _) o2
  replace o2 : Old w1 w2 := Below.trans (b := _) oldA (Below.mono o2 leA)
  replace B_r := Bx.old B_r o2
  replace r1 := Row.below r1 o2 (Nat.le_refl _)
  replace O := Old.trans O o2
  have z2 := o2.size
  have q_r_0 := B_r.cell 0 rfl
  have q_r_1 := B_r.cell 1 rfl
  have f_r_0 := B_r.frozen 0
  have f_r_1 := B_r.frozen 1
  have q_r := B_r.lt
  have q_x_0 := B_x.cell 0 rfl
  have q_x_1 := B_x.cell 1 rfl
  have f_x_0 := B_x.frozen 0
  have f_x_1 := B_x.frozen 1
  have q_x := B_x.lt
  go_wp2
  refine bodyPost_ret (v := .tuple #[.agg #[.bool false, .slice none 0 0], .bool false]) (by simp [results, Tryz.results26, go_sem, q_r_0, q_r_1]) rfl ⟨rfl, oldA⟩
set_option maxRecDepth 100000 in
set_option maxHeartbeats 1000000 in
theorem impl_ParseBigInt_neg_ok (s : ByteArray) (t : ByteArray) (V : Nat) (w : World) (b : s.size ≤ maxLen) (bt : (t).size ≤ maxLen) (hv : rParseNat (t) = V) (hb : rParseNat1 (t) = true) (hl : len V ≤ 60) (ht : tS s = t) (hn : negS s = true) (h0 : 0 < V) :
    Calls Tryz.prog 26 #[.string s] w fun e w' => RetBB e w' w.heap.size (signed true V) true ∧ Old w w' := by
  have HV := Lib.hid hv
  have HB := Lib.hid hb
  clear hv hb
  have HT := Lib.hid ht
  have HN := Lib.hid hn
  clear ht hn
  have H0 := Lib.hid h0
  clear h0
  have O : Old w (w.alloc (.cells #[.bool false, .slice none 0 0] 24)) := oldA
  have B_r : Bx (w.alloc (.cells #[.bool false, .slice none 0 0] 24)) (w.heap.size) #[.bool false, .slice none 0 0] := by have h := (Bx.new w #[.bool false, .slice none 0 0] 24); simpa using h
  go_enter Tryz.func26, Tryz.ntmps26
  go_wp2_with fail
  refine (cutPrefix_t s t true _ HT.out HN.out).mono ?_
  rintro e w1 ⟨rfl, rfl⟩
  go_wp2_with fail
  refine (impl_ParseNat t _ bt).mono ?_
  rintro e w1 ⟨⟨A, c, he, r1⟩, o1⟩
  replace o1 : Old (w.alloc (.cells #[.bool false, .slice none 0 0] 24)) w1 := Below.trans (b := _) oldA (Below.mono o1 leA)
  replace B_r := Bx.old B_r o1
  replace O := Old.trans O o1
  have z1 : w.heap.size + 1 ≤ w1.heap.size := (by have h := o1.size; simp at h; omega)
  replace r1 := Row.more (lo' := w.heap.size + 1) r1 leA
  rw [HV.out, HB.out] at he
  rw [HV.out] at r1
  subst he
  have q_r_0 := B_r.cell 0 rfl
  have q_r_1 := B_r.cell 1 rfl
  have f_r_0 := B_r.frozen 0
  have f_r_1 := B_r.frozen 1
  have q_r := B_r.lt
  go_wp2_with fail
  refine (impl_BigIntOk_yes true A c V _ _ (Row.below (B := w1.heap.size) r1 oldA (Nat.le_refl _)) hl (fun _ => H0.out)).mono ?_
  rintro e w2 ⟨rfl, o2⟩
  clear q_r_0 q_r_1 f_r_0 f_r_1 q_r
  have B_x : Bx w2 (w1.heap.size) #[.bool true, .slice A (len V) c] := Bx.old (Bx.new _ _ _) o2
  replace o2 : Old w1 w2 := Below.trans (b := _) oldA (Below.mono o2 leA)
  replace B_r := Bx.old B_r o2
  replace r1 := Row.below r1 o2 (Nat.le_refl _)
  replace O := Old.trans O o2
  have z2 := o2.size
  have q_r_0 := B_r.cell 0 rfl
  have q_r_1 := B_r.cell 1 rfl
  have f_r_0 := B_r.frozen 0
  have f_r_1 := B_r.frozen 1
  have q_r := B_r.lt
  have q_x_0 := B_x.cell 0 rfl
  have q_x_1 := B_x.cell 1 rfl
  have f_x_0 := B_x.frozen 0
  have f_x_1 := B_x.frozen 1
  have q_x := B_x.lt
  go_wp2
  refine bodyPost_ret (v := .tuple #[.agg #[.bool true, .slice A (len V) c], .bool true]) (by simp [results, Tryz.results26, go_sem, q_r_0, q_r_1]) rfl ⟨RetBB.of (fun _ => H0.out) rfl ?_, ?_⟩
  · refine Row.more (lo := w.heap.size + 1) ?_ leA
    repeat' (first | exact r1 | refine Row.far_set ?_ (by first | (simp <;> done) | (simp; omega) | omega) _)
  · exact oldA
theorem spec_ParseBigInt (s : ByteArray) (w : World) (b : s.size ≤ maxLen) :
    Calls Tryz.prog 22 #[.string s] w fun e w' => RetBB e w' w.heap.size (zParseBigInt s) (rParseBigInt1 s) ∧ Old w w' := by
  have nil : (¬ okZ s) → ∀ e w', (e = .returned (.tuple #[.agg #[.bool false, .slice none 0 0], .bool false]) ∧ Old w w') → RetBB e w' w.heap.size (zParseBigInt s) (rParseBigInt1 s) ∧ Old w w' := by
    rintro k e w' ⟨rfl, o⟩
    rw [(zParse_no k).1, (zParse_no k).2]
    exact ⟨⟨none, 0, by rw [show len (magZ 0) = 0 from len_zero]; rfl, NatS.zero _ _ _ _⟩, o⟩
  have bt : (tS s).size ≤ maxLen := Nat.le_trans (tS_size s) b
  by_cases hs : s.size = 0
  · have hN := (neg_emp hs).1
    have hT := (neg_emp hs).2
    by_cases k1 : okN (tS s)
    · have hv1 := (rParse_yes k1).2
      have hl := rParseNat_len (tS s)
      have k : okZ s := ⟨k1, fun h => by rw [hN] at h; cases h⟩
      rw [(zParse_yes k).1, (zParse_yes k).2, hN]
      rw [hT] at hv1 hl bt ⊢
      exact spec_ParseBigInt_emp_ok s _ w b bt rfl hv1 hl hs
    · have hv1 := (rParse_no k1).2
      have hl := rParseNat_len (tS s)
      have k1' := k1
      rw [hT] at hv1 hl bt
      exact (spec_ParseBigInt_emp_no s _ w b bt rfl hv1 hl hs).mono (nil fun k => k1 k.1)
  · have hs : 0 < s.size := by omega
    by_cases hc : (s[0]).toNat = 45
    · have hN : negS s = true := by rw [neg_at hs]; exact decide_eq_true hc
      have hT := tS_neg hN
      by_cases k1 : okN (tS s)
      · have hv1 := (rParse_yes k1).2
        have hl := rParseNat_len (tS s)
        by_cases h0 : rParseNat (tS s) = 0
        · have k : ¬ okZ s := fun k => by have := k.2 hN; omega
          rw [hT] at hv1 hl h0 bt
          exact (spec_ParseBigInt_neg_ok0 s _ w b bt rfl hv1 hl hs hc h0).mono (nil k)
        · have h1 : 0 < rParseNat (tS s) := by omega
          have k : okZ s := ⟨k1, fun _ => h1⟩
          rw [(zParse_yes k).1, (zParse_yes k).2, hN]
          rw [hT] at hv1 hl h1 bt ⊢
          exact spec_ParseBigInt_neg_ok s _ w b bt rfl hv1 hl hs hc h1
      · have hv1 := (rParse_no k1).2
        have hl := rParseNat_len (tS s)
        have k1' := k1
        rw [hT] at hv1 hl bt
        exact (spec_ParseBigInt_neg_no s _ w b bt rfl hv1 hl hs hc).mono (nil fun k => k1 k.1)
    · have hN : negS s = false := by rw [neg_at hs]; exact decide_eq_false hc
      have hT := tS_pos hN
      by_cases k1 : okN (tS s)
      · have hv1 := (rParse_yes k1).2
        have hl := rParseNat_len (tS s)
        have k : okZ s := ⟨k1, fun h => by rw [hN] at h; cases h⟩
        rw [(zParse_yes k).1, (zParse_yes k).2, hN]
        rw [hT] at hv1 hl bt ⊢
        exact spec_ParseBigInt_pos_ok s _ w b bt rfl hv1 hl hs hc
      · have hv1 := (rParse_no k1).2
        have hl := rParseNat_len (tS s)
        have k1' := k1
        rw [hT] at hv1 hl bt
        exact (spec_ParseBigInt_pos_no s _ w b bt rfl hv1 hl hs hc).mono (nil fun k => k1 k.1)
theorem impl_ParseBigInt (s : ByteArray) (w : World) (b : s.size ≤ maxLen) :
    Calls Tryz.prog 26 #[.string s] w fun e w' => RetBB e w' w.heap.size (zParseBigInt s) (rParseBigInt1 s) ∧ Old w w' := by
  have nil : (¬ okZ s) → ∀ e w', (e = .returned (.tuple #[.agg #[.bool false, .slice none 0 0], .bool false]) ∧ Old w w') → RetBB e w' w.heap.size (zParseBigInt s) (rParseBigInt1 s) ∧ Old w w' := by
    rintro k e w' ⟨rfl, o⟩
    rw [(zParse_no k).1, (zParse_no k).2]
    exact ⟨⟨none, 0, by rw [show len (magZ 0) = 0 from len_zero]; rfl, NatS.zero _ _ _ _⟩, o⟩
  have bt : (tS s).size ≤ maxLen := Nat.le_trans (tS_size s) b
  cases hN : negS s with
  | true =>
    by_cases k1 : okN (tS s)
    · have hv1 := (rParse_yes k1).2
      have hl := rParseNat_len (tS s)
      by_cases h0 : rParseNat (tS s) = 0
      · have k : ¬ okZ s := fun k => by have := k.2 hN; omega
        exact (impl_ParseBigInt_neg_ok0 s (tS s) _ w b bt rfl hv1 hl rfl hN h0).mono (nil k)
      · have h1 : 0 < rParseNat (tS s) := by omega
        have k : okZ s := ⟨k1, fun _ => h1⟩
        rw [(zParse_yes k).1, (zParse_yes k).2, hN]
        exact impl_ParseBigInt_neg_ok s (tS s) _ w b bt rfl hv1 hl rfl hN h1
    · have hv1 := (rParse_no k1).2
      have hl := rParseNat_len (tS s)
      exact (impl_ParseBigInt_neg_no s (tS s) _ w b bt rfl hv1 hl rfl hN).mono (nil fun k => k1 k.1)
  | false =>
    by_cases k1 : okN (tS s)
    · have hv1 := (rParse_yes k1).2
      have hl := rParseNat_len (tS s)
      have k : okZ s := ⟨k1, fun h => by rw [hN] at h; cases h⟩
      rw [(zParse_yes k).1, (zParse_yes k).2, hN]
      exact impl_ParseBigInt_pos_ok s (tS s) _ w b bt rfl hv1 hl rfl hN
    · have hv1 := (rParse_no k1).2
      have hl := rParseNat_len (tS s)
      exact (impl_ParseBigInt_pos_no s (tS s) _ w b bt rfl hv1 hl rfl hN).mono (nil fun k => k1 k.1)
end Go.Proofs.YtgchbbjhdeobpaaGreatDoor
