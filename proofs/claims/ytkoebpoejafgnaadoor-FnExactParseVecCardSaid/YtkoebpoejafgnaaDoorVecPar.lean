import Derived.Test.YtkoebpoejafgnaaDoorVecTxt
import Derived.Test.YtkoebpoejafgnaaDoorIntPar
import Derived.Test.YtkoebpoejafgnaaDoorCut
import Derived.Test.YtkoebpoejafgnaaDoorWk
/-
  Texts of vectors read back: both ParseVec's.
-/
namespace Go.Proofs.YtkoebpoejafgnaaDoor
set_option linter.unusedVariables false
open Go.RowKit
theorem itoa_no44 (v : Int) : (44 : UInt8) ∉ Lib.itoa v := by
  intro h
  unfold Lib.itoa at h
  split at h
  · rcases List.mem_cons.1 h with h | h
    · exact absurd h (by decide)
    · have := dec_digits (v.natAbs + 1) v.natAbs (by omega) _ h
      have e : (44 : UInt8).toNat = 44 := rfl
      omega
  · have := dec_digits (v.toNat + 1) v.toNat (by omega) _ h
    have e : (44 : UInt8).toNat = 44 := rfl
    omega
theorem vec_cut (x y : Int) : Cut2 (rFormatInt x ++ ⟨#[44]⟩ ++ rFormatInt y) 44 (rFormatInt x) (rFormatInt y) := by
  refine ⟨?_, by rw [rFormatInt_data]; exact itoa_no44 x, by rw [rFormatInt_data]; exact itoa_no44 y⟩
  rw [ByteArray.data_append, ByteArray.data_append, Array.toList_append, Array.toList_append]
  simp
def okV (s : ByteArray) : Prop := ∃ x y : Int, rIsValidVec x y = true ∧ rFormatInt x ++ ⟨#[44]⟩ ++ rFormatInt y = s
theorem valid_in {x y : Int} (h : rIsValidVec x y = true) : (-1000 ≤ x ∧ x ≤ 1000) ∧ (-1000 ≤ y ∧ y ≤ 1000) := by
  have := of_decide_eq_true (show decide _ = true from h)
  exact this
open Classical in
noncomputable def rParseVecx (s : ByteArray) : Int := if h : okV s then h.choose else 0
open Classical in
noncomputable def rParseVecy (s : ByteArray) : Int := if h : okV s then h.choose_spec.choose else 0
open Classical in
noncomputable def rParseVec1 (s : ByteArray) : Bool := decide (okV s)
theorem vec_inj {x y x' y' : Int} (h1 : rIsValidVec x y = true) (h2 : rIsValidVec x' y' = true) (h : rFormatInt x ++ ⟨#[44]⟩ ++ rFormatInt y = rFormatInt x' ++ ⟨#[44]⟩ ++ rFormatInt y') : x = x' ∧ y = y' := by
  have a := (vec_cut x y).split
  have b := (vec_cut x' y').split
  rw [h, b] at a
  have v1 := valid_in h1
  have v2 := valid_in h2
  injection a with a1 a2
  injection a2 with a2 _
  exact ⟨(rFormatInt_inj (by omega) (by omega) a1).symm, (rFormatInt_inj (by omega) (by omega) a2).symm⟩
open Classical in
theorem pv_is {s : ByteArray} {x y : Int} (hv : rIsValidVec x y = true) (h : rFormatInt x ++ ⟨#[44]⟩ ++ rFormatInt y = s) : rParseVecx s = x ∧ rParseVecy s = y ∧ rParseVec1 s = true := by
  have k : okV s := ⟨x, y, hv, h⟩
  have e := vec_inj k.choose_spec.choose_spec.1 hv (k.choose_spec.choose_spec.2.trans h.symm)
  refine ⟨?_, ?_, decide_eq_true k⟩
  · unfold rParseVecx; rw [dif_pos k]; exact e.1
  · unfold rParseVecy; rw [dif_pos k]; exact e.2
open Classical in
theorem pv_not {s : ByteArray} (h : ¬ okV s) : rParseVecx s = 0 ∧ rParseVecy s = 0 ∧ rParseVec1 s = false :=
  ⟨by unfold rParseVecx; rw [dif_neg h], by unfold rParseVecy; rw [dif_neg h], decide_eq_false h⟩
theorem int_back {p : ByteArray} (h : rParseInt1 p = true) : (-9223372036854775808 ≤ rParseInt0 p ∧ rParseInt0 p ≤ 9223372036854775807) ∧ rFormatInt (rParseInt0 p) = p := by
  by_cases hk : okI p
  · obtain ⟨v, hv, hs⟩ := hk
    rw [(rParse_is hv hs).1]
    exact ⟨hv, hs⟩
  · rw [(rParse_not hk).2] at h
    cases h
theorem int_range (p : ByteArray) : -9223372036854775808 ≤ rParseInt0 p ∧ rParseInt0 p ≤ 9223372036854775807 := by
  by_cases h : rParseInt1 p = true
  · exact (int_back h).1
  · have hk : ¬ okI p := fun k => h (by obtain ⟨v, hv, hs⟩ := k; exact (rParse_is hv hs).2)
    rw [(rParse_not hk).1]
    omega
set_option maxRecDepth 100000 in
set_option maxHeartbeats 1000000 in
theorem eqVec_yes (a b : Int) (w : World) :
    Calls Tryd.prog 56 #[.agg #[.int .i64 a, .int .i64 b], .agg #[.int .i64 a, .int .i64 b]] w fun e w' => e = .returned (.bool true) ∧ Old w w' := by
  go_enter Tryd.func56, Tryd.ntmps56
  go_wp2
  go_ret
  exact ⟨rfl, oldA⟩
set_option maxRecDepth 100000 in
set_option maxHeartbeats 1000000 in
theorem impl_ParseVec_cutno (s : ByteArray) (w : World) (b : s.size ≤ 1048576) (hidx : Lib.indexByte s.data.toList 44 = -1) (K : KT w) (E : KE w) :
    Calls Tryd.prog 55 #[.string s] w fun e w' => e = .returned (.tuple #[.agg #[.int .i64 0, .int .i64 0], .bool false]) ∧ Old w w' := by
  have HP : Hid (s.size ≤ 1048576) := Lib.hid b
  have HQ : Hid (ByteArray.empty.size ≤ 1048576) := Lib.hid (by show 0 ≤ _; omega)
  have HI := Lib.hid hidx
  clear hidx
  go_enter Tryd.func55, Tryd.ntmps55
  go_wp2_with fail
  refine (cut_no s 44 _ HI.out).mono ?_
  rintro e w1 ⟨rfl, o1⟩
  have B_r : Bx w1 w.heap.size #[.int .i64 0, .int .i64 0] := Bx.old (Bx.new _ _ _) o1
  have z1 := o1.size
  replace o1 : Old w w1 := Below.trans (b := _) oldA (Below.mono o1 leA)
  go_wp2_with fail
  refine (impl_ParseInt s _ HP.out (K.old o1) (E.old o1)).mono ?_
  rintro e w2 ⟨rfl, o2⟩
  replace B_r := B_r.old o2
  replace o1 := Old.trans o1 o2
  clear o2
  go_wp2_with fail
  refine (impl_ParseInt ByteArray.empty _ HQ.out (K.old o1) (E.old o1)).mono ?_
  rintro e w3 ⟨rfl, o3⟩
  replace B_r := B_r.old o3
  replace o1 := Old.trans o1 o3
  clear o3
  have q_r_0 : w3.cell? ⟨w.heap.size, 0, none⟩ = some (.int .i64 0) := B_r.cell 0 rfl
  have q_r_1 : w3.cell? ⟨w.heap.size, 1, none⟩ = some (.int .i64 0) := B_r.cell 1 rfl
  have f_r_0 := B_r.frozen 0
  have f_r_1 := B_r.frozen 1
  have q_r := B_r.lt
  go_wp2
  have e0 : ∀ o : Obj, (((w3.setCell ⟨w.heap.size, 0, none⟩ (.int .i64 0)).setCell ⟨w.heap.size, 1, none⟩ (.int .i64 0)).alloc o).cell? ⟨w.heap.size, 0, none⟩ = some (.int .i64 0) := fun o => (Bx.alloc (Bx.put2 B_r (.int .i64 0) (.int .i64 0)) o).cell 0 rfl
  have e1 : ∀ o : Obj, (((w3.setCell ⟨w.heap.size, 0, none⟩ (.int .i64 0)).setCell ⟨w.heap.size, 1, none⟩ (.int .i64 0)).alloc o).cell? ⟨w.heap.size, 1, none⟩ = some (.int .i64 0) := fun o => (Bx.alloc (Bx.put2 B_r (.int .i64 0) (.int .i64 0)) o).cell 1 rfl
  exact bodyPost_ret (v := .tuple #[.agg #[.int .i64 0, .int .i64 0], .bool false]) (by simp [results, Tryd.results55, go_sem, e0, e1]) rfl ⟨rfl, Below.trans (b := _) o1 oldA⟩
set_option maxRecDepth 100000 in
set_option maxHeartbeats 1000000 in
theorem impl_ParseVec_no1 (s : ByteArray) (w : World) (b : s.size ≤ 1048576) (i : Nat) (hidx : Lib.indexByte s.data.toList 44 = (i : Int)) (hi : i < s.size) (h1 : rParseInt1 (s.extract 0 i) = false) (K : KT w) (E : KE w) :
    Calls Tryd.prog 55 #[.string s] w fun e w' => e = .returned (.tuple #[.agg #[.int .i64 0, .int .i64 0], .bool false]) ∧ Old w w' := by
  have HP : Hid ((s.extract 0 i).size ≤ 1048576) := Lib.hid (by rw [ByteArray.size_extract]; omega)
  have HQ : Hid ((s.extract (i + 1) s.size).size ≤ 1048576) := Lib.hid (by rw [ByteArray.size_extract]; omega)
  have HI := Lib.hid hidx
  clear hidx
  have H1 := Lib.hid h1
  clear h1
  go_enter Tryd.func55, Tryd.ntmps55
  go_wp2_with fail
  refine (cut_yes s 44 i _ b HI.out hi).mono ?_
  rintro e w1 ⟨rfl, o1⟩
  have B_r : Bx w1 w.heap.size #[.int .i64 0, .int .i64 0] := Bx.old (Bx.new _ _ _) o1
  have z1 := o1.size
  replace o1 : Old w w1 := Below.trans (b := _) oldA (Below.mono o1 leA)
  go_wp2_with fail
  refine (impl_ParseInt (s.extract 0 i) _ HP.out (K.old o1) (E.old o1)).mono ?_
  rintro e w2 ⟨rfl, o2⟩
  replace B_r := B_r.old o2
  replace o1 := Old.trans o1 o2
  clear o2
  rw [H1.out]
  go_wp2_with fail
  refine (impl_ParseInt (s.extract (i + 1) s.size) _ HQ.out (K.old o1) (E.old o1)).mono ?_
  rintro e w3 ⟨rfl, o3⟩
  replace B_r := B_r.old o3
  replace o1 := Old.trans o1 o3
  clear o3
  have q_r_0 : w3.cell? ⟨w.heap.size, 0, none⟩ = some (.int .i64 0) := B_r.cell 0 rfl
  have q_r_1 : w3.cell? ⟨w.heap.size, 1, none⟩ = some (.int .i64 0) := B_r.cell 1 rfl
  have f_r_0 := B_r.frozen 0
  have f_r_1 := B_r.frozen 1
  have q_r := B_r.lt
  go_wp2
  have e0 : ∀ o : Obj, (((w3.setCell ⟨w.heap.size, 0, none⟩ (.int .i64 0)).setCell ⟨w.heap.size, 1, none⟩ (.int .i64 0)).alloc o).cell? ⟨w.heap.size, 0, none⟩ = some (.int .i64 0) := fun o => (Bx.alloc (Bx.put2 B_r (.int .i64 0) (.int .i64 0)) o).cell 0 rfl
  have e1 : ∀ o : Obj, (((w3.setCell ⟨w.heap.size, 0, none⟩ (.int .i64 0)).setCell ⟨w.heap.size, 1, none⟩ (.int .i64 0)).alloc o).cell? ⟨w.heap.size, 1, none⟩ = some (.int .i64 0) := fun o => (Bx.alloc (Bx.put2 B_r (.int .i64 0) (.int .i64 0)) o).cell 1 rfl
  exact bodyPost_ret (v := .tuple #[.agg #[.int .i64 0, .int .i64 0], .bool false]) (by simp [results, Tryd.results55, go_sem, e0, e1]) rfl ⟨rfl, Below.trans (b := _) o1 oldA⟩
set_option maxRecDepth 100000 in
set_option maxHeartbeats 1000000 in
theorem impl_ParseVec_no2 (s : ByteArray) (w : World) (b : s.size ≤ 1048576) (i : Nat) (hidx : Lib.indexByte s.data.toList 44 = (i : Int)) (hi : i < s.size) (h1 : rParseInt1 (s.extract 0 i) = true) (h2 : rParseInt1 (s.extract (i + 1) s.size) = false) (K : KT w) (E : KE w) :
    Calls Tryd.prog 55 #[.string s] w fun e w' => e = .returned (.tuple #[.agg #[.int .i64 0, .int .i64 0], .bool false]) ∧ Old w w' := by
  have HP : Hid ((s.extract 0 i).size ≤ 1048576) := Lib.hid (by rw [ByteArray.size_extract]; omega)
  have HQ : Hid ((s.extract (i + 1) s.size).size ≤ 1048576) := Lib.hid (by rw [ByteArray.size_extract]; omega)
  have HI := Lib.hid hidx
  clear hidx
  have H1 := Lib.hid h1
  clear h1
  have H2 := Lib.hid h2
  clear h2
  go_enter Tryd.func55, Tryd.ntmps55
  go_wp2_with fail
  refine (cut_yes s 44 i _ b HI.out hi).mono ?_
  rintro e w1 ⟨rfl, o1⟩
  have B_r : Bx w1 w.heap.size #[.int .i64 0, .int .i64 0] := Bx.old (Bx.new _ _ _) o1
  have z1 := o1.size
  replace o1 : Old w w1 := Below.trans (b := _) oldA (Below.mono o1 leA)
  go_wp2_with fail
  refine (impl_ParseInt (s.extract 0 i) _ HP.out (K.old o1) (E.old o1)).mono ?_
  rintro e w2 ⟨rfl, o2⟩
  replace B_r := B_r.old o2
  replace o1 := Old.trans o1 o2
  clear o2
  rw [H1.out]
  go_wp2_with fail
  refine (impl_ParseInt (s.extract (i + 1) s.size) _ HQ.out (K.old o1) (E.old o1)).mono ?_
  rintro e w3 ⟨rfl, o3⟩
  replace B_r := B_r.old o3
  replace o1 := Old.trans o1 o3
  clear o3
  rw [H2.out]
  have q_r_0 : w3.cell? ⟨w.heap.size, 0, none⟩ = some (.int .i64 0) := B_r.cell 0 rfl
  have q_r_1 : w3.cell? ⟨w.heap.size, 1, none⟩ = some (.int .i64 0) := B_r.cell 1 rfl
  have f_r_0 := B_r.frozen 0
  have f_r_1 := B_r.frozen 1
  have q_r := B_r.lt
  go_wp2
  have e0 : ∀ o : Obj, (((w3.setCell ⟨w.heap.size, 0, none⟩ (.int .i64 0)).setCell ⟨w.heap.size, 1, none⟩ (.int .i64 0)).alloc o).cell? ⟨w.heap.size, 0, none⟩ = some (.int .i64 0) := fun o => (Bx.alloc (Bx.put2 B_r (.int .i64 0) (.int .i64 0)) o).cell 0 rfl
  have e1 : ∀ o : Obj, (((w3.setCell ⟨w.heap.size, 0, none⟩ (.int .i64 0)).setCell ⟨w.heap.size, 1, none⟩ (.int .i64 0)).alloc o).cell? ⟨w.heap.size, 1, none⟩ = some (.int .i64 0) := fun o => (Bx.alloc (Bx.put2 B_r (.int .i64 0) (.int .i64 0)) o).cell 1 rfl
  exact bodyPost_ret (v := .tuple #[.agg #[.int .i64 0, .int .i64 0], .bool false]) (by simp [results, Tryd.results55, go_sem, e0, e1]) rfl ⟨rfl, Below.trans (b := _) o1 oldA⟩
set_option maxRecDepth 100000 in
set_option maxHeartbeats 1000000 in
theorem impl_ParseVec_no3 (s : ByteArray) (w : World) (b : s.size ≤ 1048576) (i : Nat) (hidx : Lib.indexByte s.data.toList 44 = (i : Int)) (hi : i < s.size) (h1 : rParseInt1 (s.extract 0 i) = true) (h2 : rParseInt1 (s.extract (i + 1) s.size) = true) (hv : rIsValidVec (rParseInt0 (s.extract 0 i)) (rParseInt0 (s.extract (i + 1) s.size)) = false) (K : KT w) (E : KE w) :
    Calls Tryd.prog 55 #[.string s] w fun e w' => e = .returned (.tuple #[.agg #[.int .i64 0, .int .i64 0], .bool false]) ∧ Old w w' := by
  have HP : Hid ((s.extract 0 i).size ≤ 1048576) := Lib.hid (by rw [ByteArray.size_extract]; omega)
  have HQ : Hid ((s.extract (i + 1) s.size).size ≤ 1048576) := Lib.hid (by rw [ByteArray.size_extract]; omega)
  have HI := Lib.hid hidx
  clear hidx
  have H1 := Lib.hid h1
  clear h1
  have H2 := Lib.hid h2
  clear h2
  have HV := Lib.hid hv
  clear hv
  go_enter Tryd.func55, Tryd.ntmps55
  go_wp2_with fail
  refine (cut_yes s 44 i _ b HI.out hi).mono ?_
  rintro e w1 ⟨rfl, o1⟩
  have B_r : Bx w1 w.heap.size #[.int .i64 0, .int .i64 0] := Bx.old (Bx.new _ _ _) o1
  have z1 := o1.size
  replace o1 : Old w w1 := Below.trans (b := _) oldA (Below.mono o1 leA)
  go_wp2_with fail
  refine (impl_ParseInt (s.extract 0 i) _ HP.out (K.old o1) (E.old o1)).mono ?_
  rintro e w2 ⟨rfl, o2⟩
  replace B_r := B_r.old o2
  replace o1 := Old.trans o1 o2
  clear o2
  rw [H1.out]
  go_wp2_with fail
  refine (impl_ParseInt (s.extract (i + 1) s.size) _ HQ.out (K.old o1) (E.old o1)).mono ?_
  rintro e w3 ⟨rfl, o3⟩
  replace B_r := B_r.old o3
  replace o1 := Old.trans o1 o3
  clear o3
  rw [H2.out]
  go_wp2_with fail
  refine (isVec_any (rParseInt0 (s.extract 0 i)) (rParseInt0 (s.extract (i + 1) s.size)) _).mono ?_
  rintro e w4 ⟨rfl, o4⟩
  rw [HV.out]
  have B_v : Bx w4 w3.heap.size #[.int .i64 (rParseInt0 (s.extract 0 i)), .int .i64 (rParseInt0 (s.extract (i + 1) s.size))] := Bx.old (Bx.new _ _ _) o4
  have z4 := o4.size
  replace B_r := (Bx.alloc B_r _).old o4
  replace o4 : Old w3 w4 := Below.trans (b := _) oldA (Below.mono o4 leA)
  have q_v_0 : w4.cell? ⟨w3.heap.size, 0, none⟩ = some (.int .i64 (rParseInt0 (s.extract 0 i))) := B_v.cell 0 rfl
  have q_v_1 : w4.cell? ⟨w3.heap.size, 1, none⟩ = some (.int .i64 (rParseInt0 (s.extract (i + 1) s.size))) := B_v.cell 1 rfl
  have q_v := B_v.lt
  replace o1 := Old.trans o1 o4
  clear o4 B_v
  have q_r_0 : w4.cell? ⟨w.heap.size, 0, none⟩ = some (.int .i64 0) := B_r.cell 0 rfl
  have q_r_1 : w4.cell? ⟨w.heap.size, 1, none⟩ = some (.int .i64 0) := B_r.cell 1 rfl
  have f_r_0 := B_r.frozen 0
  have f_r_1 := B_r.frozen 1
  have q_r := B_r.lt
  go_wp2
  have e0 : ((w4.setCell ⟨w.heap.size, 0, none⟩ (.int .i64 0)).setCell ⟨w.heap.size, 1, none⟩ (.int .i64 0)).cell? ⟨w.heap.size, 0, none⟩ = some (.int .i64 0) := (Bx.put2 B_r (.int .i64 0) (.int .i64 0)).cell 0 rfl
  have e1 : ((w4.setCell ⟨w.heap.size, 0, none⟩ (.int .i64 0)).setCell ⟨w.heap.size, 1, none⟩ (.int .i64 0)).cell? ⟨w.heap.size, 1, none⟩ = some (.int .i64 0) := (Bx.put2 B_r (.int .i64 0) (.int .i64 0)).cell 1 rfl
  exact bodyPost_ret (v := .tuple #[.agg #[.int .i64 0, .int .i64 0], .bool false]) (by simp [results, Tryd.results55, go_sem, e0, e1]) rfl ⟨rfl, Below.trans (b := _) o1 oldA⟩
set_option maxRecDepth 100000 in
set_option maxHeartbeats 1000000 in
theorem impl_ParseVec_yes (s : ByteArray) (w : World) (b : s.size ≤ 1048576) (i : Nat) (hidx : Lib.indexByte s.data.toList 44 = (i : Int)) (hi : i < s.size) (h1 : rParseInt1 (s.extract 0 i) = true) (h2 : rParseInt1 (s.extract (i + 1) s.size) = true) (hv : rIsValidVec (rParseInt0 (s.extract 0 i)) (rParseInt0 (s.extract (i + 1) s.size)) = true) (K : KT w) (E : KE w) :
    Calls Tryd.prog 55 #[.string s] w fun e w' => e = .returned (.tuple #[.agg #[.int .i64 (rParseInt0 (s.extract 0 i)), .int .i64 (rParseInt0 (s.extract (i + 1) s.size))], .bool true]) ∧ Old w w' := by
  have HP : Hid ((s.extract 0 i).size ≤ 1048576) := Lib.hid (by rw [ByteArray.size_extract]; omega)
  have HQ : Hid ((s.extract (i + 1) s.size).size ≤ 1048576) := Lib.hid (by rw [ByteArray.size_extract]; omega)
  have HI := Lib.hid hidx
  clear hidx
  have H1 := Lib.hid h1
  clear h1
  have H2 := Lib.hid h2
  clear h2
  have HV := Lib.hid hv
  clear hv
  go_enter Tryd.func55, Tryd.ntmps55
  go_wp2_with fail
  refine (cut_yes s 44 i _ b HI.out hi).mono ?_
  rintro e w1 ⟨rfl, o1⟩
  have B_r : Bx w1 w.heap.size #[.int .i64 0, .int .i64 0] := Bx.old (Bx.new _ _ _) o1
  have z1 := o1.size
  replace o1 : Old w w1 := Below.trans (b := _) oldA (Below.mono o1 leA)
  go_wp2_with fail
  refine (impl_ParseInt (s.extract 0 i) _ HP.out (K.old o1) (E.old o1)).mono ?_
  rintro e w2 ⟨rfl, o2⟩
  replace B_r := B_r.old o2
  replace o1 := Old.trans o1 o2
  clear o2
  rw [H1.out]
  go_wp2_with fail
  refine (impl_ParseInt (s.extract (i + 1) s.size) _ HQ.out (K.old o1) (E.old o1)).mono ?_
  rintro e w3 ⟨rfl, o3⟩
  replace B_r := B_r.old o3
  replace o1 := Old.trans o1 o3
  clear o3
  rw [H2.out]
  go_wp2_with fail
  refine (isVec_any (rParseInt0 (s.extract 0 i)) (rParseInt0 (s.extract (i + 1) s.size)) _).mono ?_
  rintro e w4 ⟨rfl, o4⟩
  rw [HV.out]
  have B_v : Bx w4 w3.heap.size #[.int .i64 (rParseInt0 (s.extract 0 i)), .int .i64 (rParseInt0 (s.extract (i + 1) s.size))] := Bx.old (Bx.new _ _ _) o4
  have z4 := o4.size
  replace B_r := (Bx.alloc B_r _).old o4
  replace o4 : Old w3 w4 := Below.trans (b := _) oldA (Below.mono o4 leA)
  have q_v_0 : w4.cell? ⟨w3.heap.size, 0, none⟩ = some (.int .i64 (rParseInt0 (s.extract 0 i))) := B_v.cell 0 rfl
  have q_v_1 : w4.cell? ⟨w3.heap.size, 1, none⟩ = some (.int .i64 (rParseInt0 (s.extract (i + 1) s.size))) := B_v.cell 1 rfl
  have q_v := B_v.lt
  replace o1 := Old.trans o1 o4
  clear o4 B_v
  have q_r_0 : w4.cell? ⟨w.heap.size, 0, none⟩ = some (.int .i64 0) := B_r.cell 0 rfl
  have q_r_1 : w4.cell? ⟨w.heap.size, 1, none⟩ = some (.int .i64 0) := B_r.cell 1 rfl
  have f_r_0 := B_r.frozen 0
  have f_r_1 := B_r.frozen 1
  have q_r := B_r.lt
  go_wp2
  have e0 : ((w4.setCell ⟨w.heap.size, 0, none⟩ (.int .i64 (rParseInt0 (s.extract 0 i)))).setCell ⟨w.heap.size, 1, none⟩ (.int .i64 (rParseInt0 (s.extract (i + 1) s.size)))).cell? ⟨w.heap.size, 0, none⟩ = some (.int .i64 (rParseInt0 (s.extract 0 i))) := (Bx.put2 B_r (.int .i64 (rParseInt0 (s.extract 0 i))) (.int .i64 (rParseInt0 (s.extract (i + 1) s.size)))).cell 0 rfl
  have e1 : ((w4.setCell ⟨w.heap.size, 0, none⟩ (.int .i64 (rParseInt0 (s.extract 0 i)))).setCell ⟨w.heap.size, 1, none⟩ (.int .i64 (rParseInt0 (s.extract (i + 1) s.size)))).cell? ⟨w.heap.size, 1, none⟩ = some (.int .i64 (rParseInt0 (s.extract (i + 1) s.size))) := (Bx.put2 B_r (.int .i64 (rParseInt0 (s.extract 0 i))) (.int .i64 (rParseInt0 (s.extract (i + 1) s.size)))).cell 1 rfl
  exact bodyPost_ret (v := .tuple #[.agg #[.int .i64 (rParseInt0 (s.extract 0 i)), .int .i64 (rParseInt0 (s.extract (i + 1) s.size))], .bool true]) (by simp [results, Tryd.results55, go_sem, e0, e1]) rfl ⟨rfl, Below.trans (b := _) o1 oldA⟩
theorem cut_back {s : ByteArray} {c : UInt8} {i : Nat} (h : Lib.indexByte s.data.toList c = (i : Int)) : s.extract 0 i ++ ⟨#[c]⟩ ++ s.extract (i + 1) s.size = s := by
  have hf := Lib.indexByte_some h
  obtain ⟨hi, e⟩ := List.getElem?_eq_some_iff.1 hf.1
  have e1 : s.size = s.data.toList.length := rfl
  apply ByteArray.ext
  apply Array.ext'
  rw [ByteArray.data_append, ByteArray.data_append, Array.toList_append, Array.toList_append, ByteArray.data_extract, ByteArray.data_extract, Array.toList_extract, Array.toList_extract, List.extract_eq_take_drop, List.extract_eq_take_drop, e1]
  rw [List.take_of_length_le (l := s.data.toList.drop (i + 1)) (by rw [List.length_drop]; omega)]
  have h3 : s.data.toList.drop i = c :: s.data.toList.drop (i + 1) := by rw [List.drop_eq_getElem_cons hi, e]
  have h4 := List.take_append_drop i s.data.toList
  rw [h3] at h4
  simpa using h4
theorem impl_ParseVec (s : ByteArray) (w : World) (b : s.size ≤ 1048576) (K : KT w) (E : KE w) :
    Calls Tryd.prog 55 #[.string s] w fun e w' => e = .returned (.tuple #[.agg #[.int .i64 (rParseVecx s), .int .i64 (rParseVecy s)], .bool (rParseVec1 s)]) ∧ Old w w' := by
  by_cases hk : okV s
  · obtain ⟨x, y, hv, hs⟩ := hk
    have hp := pv_is hv hs
    rw [hp.1, hp.2.1, hp.2.2]
    have hc := vec_cut x y
    rw [hs] at hc
    have v := valid_in hv
    have e1 : s.extract 0 (rFormatInt x).size = rFormatInt x := hc.left
    have e2 : s.extract ((rFormatInt x).size + 1) s.size = rFormatInt y := hc.right
    have p1 := rParse_is (s := rFormatInt x) (v := x) (by omega) rfl
    have p2 := rParse_is (s := rFormatInt y) (v := y) (by omega) rfl
    have hh := impl_ParseVec_yes s w b (rFormatInt x).size hc.index (by have := hc.size; omega) (by rw [e1]; exact p1.2) (by rw [e2]; exact p2.2) (by rw [e1, e2, p1.1, p2.1]; exact hv) K E
    rw [e1, e2, p1.1, p2.1] at hh
    exact hh
  · have hp := pv_not hk
    rw [hp.1, hp.2.1, hp.2.2]
    rcases (by have := Lib.indexByte_ge s.data.toList 44; omega : Lib.indexByte s.data.toList 44 = -1 ∨ 0 ≤ Lib.indexByte s.data.toList 44) with h | h
    · exact impl_ParseVec_cutno s w b h K E
    · obtain ⟨i, hi⟩ : ∃ i : Nat, Lib.indexByte s.data.toList 44 = (i : Int) := ⟨(Lib.indexByte s.data.toList 44).toNat, by omega⟩
      have hlt := (index_found hi).1
      cases h1 : rParseInt1 (s.extract 0 i) with
      | false => exact impl_ParseVec_no1 s w b i hi hlt h1 K E
      | true =>
        cases h2 : rParseInt1 (s.extract (i + 1) s.size) with
        | false => exact impl_ParseVec_no2 s w b i hi hlt h1 h2 K E
        | true =>
          cases hv : rIsValidVec (rParseInt0 (s.extract 0 i)) (rParseInt0 (s.extract (i + 1) s.size)) with
          | false => exact impl_ParseVec_no3 s w b i hi hlt h1 h2 hv K E
          | true =>
            refine absurd ⟨_, _, hv, ?_⟩ hk
            rw [(int_back h1).2, (int_back h2).2]
            exact cut_back hi
theorem piece_le (s y : ByteArray) : ∀ i, i ≤ s.size → ∀ p ∈ (spl s y i).1, p.size ≤ s.size
  | 0, _, p, hp => by cases hp
  | i + 1, hi, p, hp => by
    by_cases h : hasB y (bAt s i) = true
    · rw [spl_hit h] at hp
      rcases List.mem_append.1 hp with hp | hp
      · exact piece_le s y i (by omega) p hp
      · simp only [List.mem_singleton] at hp
        rw [hp, ByteArray.size_extract]
        omega
    · rw [spl_miss (by simpa using h)] at hp
      exact piece_le s y i (by omega) p hp
theorem pieces_le {s y p : ByteArray} (h : p ∈ rSplitAny s y) : p.size ≤ s.size := by
  unfold rSplitAny at h
  rcases List.mem_append.1 h with h | h
  · exact piece_le s y s.size (Nat.le_refl _) p h
  · simp only [List.mem_singleton] at h
    rw [h, ByteArray.size_extract]
    omega
set_option maxRecDepth 100000 in
set_option maxHeartbeats 1000000 in
theorem spec_ParseVec_len (s : ByteArray) (w : World) (b : s.size ≤ 1048576) (L : Nat) (hL : (rSplitAny s ⟨#[44]⟩).length = L) (hL2 : ¬ L = 2) :
    Calls Tryd.prog 54 #[.string s] w fun e w' => e = .returned (.tuple #[.agg #[.int .i64 0, .int .i64 0], .bool false]) ∧ Old w w' := by
  have hLs : L ≤ 1048577 := by rw [← hL]; have := rSplitAny_len s ⟨#[44]⟩; omega
  have HL := Lib.hid hL
  have hq1 : ((L : Int) == 2) = false := by simp; omega
  have hq2 : ¬ (L : Int) = 2 := by omega
  clear hL
  go_enter Tryd.func54, Tryd.ntmps54
  go_wp2_with fail
  refine (spec_SplitAny s ⟨#[44]⟩ _ b (by show 1 ≤ _; omega)).mono ?_
  rintro e w1 ⟨⟨A, c, rfl, R⟩, o1⟩
  have B_r : Bx w1 w.heap.size #[.int .i64 0, .int .i64 0] := Bx.old (Bx.new _ _ _) o1
  have z1 := o1.size
  replace o1 : Old w w1 := Below.trans (b := _) oldA (Below.mono o1 leA)
  rw [HL.out]
  have q_r_0 : w1.cell? ⟨w.heap.size, 0, none⟩ = some (.int .i64 0) := B_r.cell 0 rfl
  have q_r_1 : w1.cell? ⟨w.heap.size, 1, none⟩ = some (.int .i64 0) := B_r.cell 1 rfl
  have f_r_0 := B_r.frozen 0
  have f_r_1 := B_r.frozen 1
  have q_r := B_r.lt
  go_wp2
  have e0 : ((w1.setCell ⟨w.heap.size, 0, none⟩ (.int .i64 0)).setCell ⟨w.heap.size, 1, none⟩ (.int .i64 0)).cell? ⟨w.heap.size, 0, none⟩ = some (.int .i64 0) := (Bx.put2 B_r (.int .i64 0) (.int .i64 0)).cell 0 rfl
  have e1 : ((w1.setCell ⟨w.heap.size, 0, none⟩ (.int .i64 0)).setCell ⟨w.heap.size, 1, none⟩ (.int .i64 0)).cell? ⟨w.heap.size, 1, none⟩ = some (.int .i64 0) := (Bx.put2 B_r (.int .i64 0) (.int .i64 0)).cell 1 rfl
  exact bodyPost_ret (v := .tuple #[.agg #[.int .i64 0, .int .i64 0], .bool false]) (by simp [results, Tryd.results54, go_sem, e0, e1]) rfl ⟨rfl, Below.trans (b := _) o1 oldA⟩
set_option maxRecDepth 100000 in
set_option maxHeartbeats 1000000 in
theorem spec_ParseVec_no1 (s p q : ByteArray) (w : World) (b : s.size ≤ 1048576) (hpq : rSplitAny s ⟨#[44]⟩ = [p, q]) (ht : rFormatVec (rParseInt0 p) (rParseInt0 q) = ByteArray.empty) :
    Calls Tryd.prog 54 #[.string s] w fun e w' => e = .returned (.tuple #[.agg #[.int .i64 0, .int .i64 0], .bool false]) ∧ Old w w' := by
  have HP : Hid (p.size ≤ 1048576) := Lib.hid (Nat.le_trans (pieces_le (s := s) (y := ⟨#[44]⟩) (by rw [hpq]; simp)) b)
  have HQ : Hid (q.size ≤ 1048576) := Lib.hid (Nat.le_trans (pieces_le (s := s) (y := ⟨#[44]⟩) (by rw [hpq]; simp)) b)
  have HPQ := Lib.hid hpq
  clear hpq
  have HT := Lib.hid ht
  clear ht
  go_enter Tryd.func54, Tryd.ntmps54
  go_wp2_with fail
  refine (spec_SplitAny s ⟨#[44]⟩ _ b (by show 1 ≤ _; omega)).mono ?_
  rintro e w1 ⟨⟨A, c, rfl, R⟩, o1⟩
  have B_r : Bx w1 w.heap.size #[.int .i64 0, .int .i64 0] := Bx.old (Bx.new _ _ _) o1
  have z1 := o1.size
  replace o1 : Old w w1 := Below.trans (b := _) oldA (Below.mono o1 leA)
  rw [HPQ.out] at R
  rw [HPQ.out]
  obtain ⟨bb, o, rfl, _, hbs, _, hc⟩ := R.2 (by show 0 < 2; omega)
  have hx0 : w1.cell? ⟨bb, o, none⟩ = some (.string p) := by have := hc 0 (by show 0 < 2; omega); simpa using this
  have hx1 : w1.cell? ⟨bb, o + 1, none⟩ = some (.string q) := by have := hc 1 (by show 1 < 2; omega); simpa using this
  have HC0 := Lib.hid hx0
  have HC1 := Lib.hid hx1
  clear hc R
  have c2 : ([p, q] : List ByteArray).length = 2 := rfl
  have zr : w.heap.size < w1.heap.size := by simp at z1; omega
  go_wp2_with fail
  refine (spec_ParseInt p _ HP.out).mono ?_
  rintro e w2 ⟨rfl, o2⟩
  have B_v : Bx w2 w1.heap.size #[.int .i64 0, .int .i64 0] := Bx.old (Bx.new _ _ _) o2
  have z2 := o2.size
  replace B_r := (Bx.alloc B_r _).old o2
  replace o2 : Old w1 w2 := Below.trans (b := _) oldA (Below.mono o2 leA)
  clear hx0 hx1
  have hx1 := (o2.cell (p := ⟨bb, o + 1, none⟩) hbs).trans HC1.out
  have n1 : ¬ w1.heap.size = bb := by omega
  have n2 : ¬ bb = w1.heap.size := by omega
  have n3 : ¬ w1.heap.size = w.heap.size := by omega
  have n4 : ¬ w.heap.size = w1.heap.size := by omega
  have q_v_0 : w2.cell? ⟨w1.heap.size, 0, none⟩ = some (.int .i64 0) := B_v.cell 0 rfl
  have f_v_0 := B_v.frozen 0
  have q_v := B_v.lt
  have rp := int_range p
  have rq := int_range q
  have O1 := Old.trans o1 o2
  go_wp2_with fail
  refine (spec_ParseInt q _ HQ.out).mono ?_
  rintro e w3 ⟨rfl, o3⟩
  replace B_v := (Bx.set B_v 0 (.int .i64 (rParseInt0 p))).old o3
  replace B_r := (Bx.far (p := ⟨w1.heap.size, 0, none⟩) B_r (by first | exact n3 | exact n4) _).old o3
  have z3 := o3.size
  replace o3 : Below w1.heap.size w2 w3 := Below.trans (b := _) (Below.setCell (p := ⟨w1.heap.size, 0, none⟩) (Below.refl w1.heap.size w2) (Nat.le_refl w1.heap.size) _) (Below.mono o3 (by simpa [World.setCell] using o2.size))
  have O3 := Below.trans O1 (Below.mono o3 (Nat.le_of_lt zr))
  have q_v_1 : w3.cell? ⟨w1.heap.size, 1, none⟩ = some (.int .i64 0) := B_v.cell 1 rfl
  have q_v_0 : w3.cell? ⟨w1.heap.size, 0, none⟩ = some (.int .i64 (rParseInt0 p)) := B_v.cell 0 rfl
  have f_v_1 := B_v.frozen 1
  have q_v := B_v.lt
  go_wp2_with fail
  refine (spec_FormatVec (rParseInt0 p) (rParseInt0 q) _ rp rq).mono ?_
  rintro e w4 ⟨rfl, o4⟩
  replace B_v := (Bx.set B_v 1 (.int .i64 (rParseInt0 q))).old o4
  replace B_r := (Bx.far (p := ⟨w1.heap.size, 1, none⟩) B_r (by first | exact n3 | exact n4) _).old o4
  have z4 := o4.size
  replace o4 : Below w1.heap.size w3 w4 := Below.trans (b := _) (Below.setCell (p := ⟨w1.heap.size, 1, none⟩) (Below.refl w1.heap.size w3) (Nat.le_refl w1.heap.size) _) (Below.mono o4 (by have := B_v.lt; simp [World.setCell] at z4 ⊢; omega))
  have O4 := Below.trans O3 (Below.mono o4 (Nat.le_of_lt zr))
  rw [HT.out]
  have q_v_0 : w4.cell? ⟨w1.heap.size, 0, none⟩ = some (.int .i64 (rParseInt0 p)) := B_v.cell 0 rfl
  have q_v_1 : w4.cell? ⟨w1.heap.size, 1, none⟩ = some (.int .i64 (rParseInt0 q)) := B_v.cell 1 rfl
  have q_v := B_v.lt
  have q_r_0 : w4.cell? ⟨w.heap.size, 0, none⟩ = some (.int .i64 0) := B_r.cell 0 rfl
  have q_r_1 : w4.cell? ⟨w.heap.size, 1, none⟩ = some (.int .i64 0) := B_r.cell 1 rfl
  have f_r_0 := B_r.frozen 0
  have f_r_1 := B_r.frozen 1
  have q_r := B_r.lt
  go_wp2
  have e0 : ((w4.setCell ⟨w.heap.size, 0, none⟩ (.int .i64 0)).setCell ⟨w.heap.size, 1, none⟩ (.int .i64 0)).cell? ⟨w.heap.size, 0, none⟩ = some (.int .i64 0) := (Bx.put2 B_r (.int .i64 0) (.int .i64 0)).cell 0 rfl
  have e1 : ((w4.setCell ⟨w.heap.size, 0, none⟩ (.int .i64 0)).setCell ⟨w.heap.size, 1, none⟩ (.int .i64 0)).cell? ⟨w.heap.size, 1, none⟩ = some (.int .i64 0) := (Bx.put2 B_r (.int .i64 0) (.int .i64 0)).cell 1 rfl
  exact bodyPost_ret (v := .tuple #[.agg #[.int .i64 0, .int .i64 0], .bool false]) (by simp [results, Tryd.results54, go_sem, e0, e1]) rfl ⟨rfl, Below.trans (b := _) O4 oldA⟩
set_option maxRecDepth 100000 in
set_option maxHeartbeats 1000000 in
theorem spec_ParseVec_no2 (s p q : ByteArray) (w : World) (b : s.size ≤ 1048576) (hpq : rSplitAny s ⟨#[44]⟩ = [p, q]) (T : ByteArray) (ht : rFormatVec (rParseInt0 p) (rParseInt0 q) = T) (h0 : ¬ T.size = 0) (hs : ¬ T = s) :
    Calls Tryd.prog 54 #[.string s] w fun e w' => e = .returned (.tuple #[.agg #[.int .i64 0, .int .i64 0], .bool false]) ∧ Old w w' := by
  have HP : Hid (p.size ≤ 1048576) := Lib.hid (Nat.le_trans (pieces_le (s := s) (y := ⟨#[44]⟩) (by rw [hpq]; simp)) b)
  have HQ : Hid (q.size ≤ 1048576) := Lib.hid (Nat.le_trans (pieces_le (s := s) (y := ⟨#[44]⟩) (by rw [hpq]; simp)) b)
  have HPQ := Lib.hid hpq
  clear hpq
  have HT := Lib.hid ht
  have hem := text_ne h0
  have hs3 := text_neq hs
  clear ht h0 hs
  go_enter Tryd.func54, Tryd.ntmps54
  go_wp2_with fail
  refine (spec_SplitAny s ⟨#[44]⟩ _ b (by show 1 ≤ _; omega)).mono ?_
  rintro e w1 ⟨⟨A, c, rfl, R⟩, o1⟩
  have B_r : Bx w1 w.heap.size #[.int .i64 0, .int .i64 0] := Bx.old (Bx.new _ _ _) o1
  have z1 := o1.size
  replace o1 : Old w w1 := Below.trans (b := _) oldA (Below.mono o1 leA)
  rw [HPQ.out] at R
  rw [HPQ.out]
  obtain ⟨bb, o, rfl, _, hbs, _, hc⟩ := R.2 (by show 0 < 2; omega)
  have hx0 : w1.cell? ⟨bb, o, none⟩ = some (.string p) := by have := hc 0 (by show 0 < 2; omega); simpa using this
  have hx1 : w1.cell? ⟨bb, o + 1, none⟩ = some (.string q) := by have := hc 1 (by show 1 < 2; omega); simpa using this
  have HC0 := Lib.hid hx0
  have HC1 := Lib.hid hx1
  clear hc R
  have c2 : ([p, q] : List ByteArray).length = 2 := rfl
  have zr : w.heap.size < w1.heap.size := by simp at z1; omega
  go_wp2_with fail
  refine (spec_ParseInt p _ HP.out).mono ?_
  rintro e w2 ⟨rfl, o2⟩
  have B_v : Bx w2 w1.heap.size #[.int .i64 0, .int .i64 0] := Bx.old (Bx.new _ _ _) o2
  have z2 := o2.size
  replace B_r := (Bx.alloc B_r _).old o2
  replace o2 : Old w1 w2 := Below.trans (b := _) oldA (Below.mono o2 leA)
  clear hx0 hx1
  have hx1 := (o2.cell (p := ⟨bb, o + 1, none⟩) hbs).trans HC1.out
  have n1 : ¬ w1.heap.size = bb := by omega
  have n2 : ¬ bb = w1.heap.size := by omega
  have n3 : ¬ w1.heap.size = w.heap.size := by omega
  have n4 : ¬ w.heap.size = w1.heap.size := by omega
  have q_v_0 : w2.cell? ⟨w1.heap.size, 0, none⟩ = some (.int .i64 0) := B_v.cell 0 rfl
  have f_v_0 := B_v.frozen 0
  have q_v := B_v.lt
  have rp := int_range p
  have rq := int_range q
  have O1 := Old.trans o1 o2
  go_wp2_with fail
  refine (spec_ParseInt q _ HQ.out).mono ?_
  rintro e w3 ⟨rfl, o3⟩
  replace B_v := (Bx.set B_v 0 (.int .i64 (rParseInt0 p))).old o3
  replace B_r := (Bx.far (p := ⟨w1.heap.size, 0, none⟩) B_r (by first | exact n3 | exact n4) _).old o3
  have z3 := o3.size
  replace o3 : Below w1.heap.size w2 w3 := Below.trans (b := _) (Below.setCell (p := ⟨w1.heap.size, 0, none⟩) (Below.refl w1.heap.size w2) (Nat.le_refl w1.heap.size) _) (Below.mono o3 (by simpa [World.setCell] using o2.size))
  have O3 := Below.trans O1 (Below.mono o3 (Nat.le_of_lt zr))
  have q_v_1 : w3.cell? ⟨w1.heap.size, 1, none⟩ = some (.int .i64 0) := B_v.cell 1 rfl
  have q_v_0 : w3.cell? ⟨w1.heap.size, 0, none⟩ = some (.int .i64 (rParseInt0 p)) := B_v.cell 0 rfl
  have f_v_1 := B_v.frozen 1
  have q_v := B_v.lt
  go_wp2_with fail
  refine (spec_FormatVec (rParseInt0 p) (rParseInt0 q) _ rp rq).mono ?_
  rintro e w4 ⟨rfl, o4⟩
  replace B_v := (Bx.set B_v 1 (.int .i64 (rParseInt0 q))).old o4
  replace B_r := (Bx.far (p := ⟨w1.heap.size, 1, none⟩) B_r (by first | exact n3 | exact n4) _).old o4
  have z4 := o4.size
  replace o4 : Below w1.heap.size w3 w4 := Below.trans (b := _) (Below.setCell (p := ⟨w1.heap.size, 1, none⟩) (Below.refl w1.heap.size w3) (Nat.le_refl w1.heap.size) _) (Below.mono o4 (by have := B_v.lt; simp [World.setCell] at z4 ⊢; omega))
  have O4 := Below.trans O3 (Below.mono o4 (Nat.le_of_lt zr))
  rw [HT.out]
  have q_v_0 : w4.cell? ⟨w1.heap.size, 0, none⟩ = some (.int .i64 (rParseInt0 p)) := B_v.cell 0 rfl
  have q_v_1 : w4.cell? ⟨w1.heap.size, 1, none⟩ = some (.int .i64 (rParseInt0 q)) := B_v.cell 1 rfl
  have q_v := B_v.lt
  go_wp2_with fail
  refine (spec_FormatVec (rParseInt0 p) (rParseInt0 q) _ rp rq).mono ?_
  rintro e w5 ⟨rfl, o5⟩
  replace B_v := B_v.old o5
  replace B_r := B_r.old o5
  replace O4 := Old.trans O4 o5
  rw [HT.out]
  have q_v_0 : w5.cell? ⟨w1.heap.size, 0, none⟩ = some (.int .i64 (rParseInt0 p)) := B_v.cell 0 rfl
  have q_v_1 : w5.cell? ⟨w1.heap.size, 1, none⟩ = some (.int .i64 (rParseInt0 q)) := B_v.cell 1 rfl
  have q_v := B_v.lt
  have q_r_0 : w5.cell? ⟨w.heap.size, 0, none⟩ = some (.int .i64 0) := B_r.cell 0 rfl
  have q_r_1 : w5.cell? ⟨w.heap.size, 1, none⟩ = some (.int .i64 0) := B_r.cell 1 rfl
  have f_r_0 := B_r.frozen 0
  have f_r_1 := B_r.frozen 1
  have q_r := B_r.lt
  go_wp2
  have e0 : ((w5.setCell ⟨w.heap.size, 0, none⟩ (.int .i64 0)).setCell ⟨w.heap.size, 1, none⟩ (.int .i64 0)).cell? ⟨w.heap.size, 0, none⟩ = some (.int .i64 0) := (Bx.put2 B_r (.int .i64 0) (.int .i64 0)).cell 0 rfl
  have e1 : ((w5.setCell ⟨w.heap.size, 0, none⟩ (.int .i64 0)).setCell ⟨w.heap.size, 1, none⟩ (.int .i64 0)).cell? ⟨w.heap.size, 1, none⟩ = some (.int .i64 0) := (Bx.put2 B_r (.int .i64 0) (.int .i64 0)).cell 1 rfl
  exact bodyPost_ret (v := .tuple #[.agg #[.int .i64 0, .int .i64 0], .bool false]) (by simp [results, Tryd.results54, go_sem, e0, e1]) rfl ⟨rfl, Below.trans (b := _) O4 oldA⟩
set_option maxRecDepth 100000 in
set_option maxHeartbeats 1000000 in
theorem spec_ParseVec_yes (s p q : ByteArray) (w : World) (b : s.size ≤ 1048576) (hpq : rSplitAny s ⟨#[44]⟩ = [p, q]) (ht : rFormatVec (rParseInt0 p) (rParseInt0 q) = s) (h0 : ¬ s.size = 0) :
    Calls Tryd.prog 54 #[.string s] w fun e w' => e = .returned (.tuple #[.agg #[.int .i64 (rParseInt0 p), .int .i64 (rParseInt0 q)], .bool true]) ∧ Old w w' := by
  have HP : Hid (p.size ≤ 1048576) := Lib.hid (Nat.le_trans (pieces_le (s := s) (y := ⟨#[44]⟩) (by rw [hpq]; simp)) b)
  have HQ : Hid (q.size ≤ 1048576) := Lib.hid (Nat.le_trans (pieces_le (s := s) (y := ⟨#[44]⟩) (by rw [hpq]; simp)) b)
  have HPQ := Lib.hid hpq
  clear hpq
  have HT := Lib.hid ht
  have hem := text_ne h0
  clear ht h0
  go_enter Tryd.func54, Tryd.ntmps54
  go_wp2_with fail
  refine (spec_SplitAny s ⟨#[44]⟩ _ b (by show 1 ≤ _; omega)).mono ?_
  rintro e w1 ⟨⟨A, c, rfl, R⟩, o1⟩
  have B_r : Bx w1 w.heap.size #[.int .i64 0, .int .i64 0] := Bx.old (Bx.new _ _ _) o1
  have z1 := o1.size
  replace o1 : Old w w1 := Below.trans (b := _) oldA (Below.mono o1 leA)
  rw [HPQ.out] at R
  rw [HPQ.out]
  obtain ⟨bb, o, rfl, _, hbs, _, hc⟩ := R.2 (by show 0 < 2; omega)
  have hx0 : w1.cell? ⟨bb, o, none⟩ = some (.string p) := by have := hc 0 (by show 0 < 2; omega); simpa using this
  have hx1 : w1.cell? ⟨bb, o + 1, none⟩ = some (.string q) := by have := hc 1 (by show 1 < 2; omega); simpa using this
  have HC0 := Lib.hid hx0
  have HC1 := Lib.hid hx1
  clear hc R
  have c2 : ([p, q] : List ByteArray).length = 2 := rfl
  have zr : w.heap.size < w1.heap.size := by simp at z1; omega
  go_wp2_with fail
  refine (spec_ParseInt p _ HP.out).mono ?_
  rintro e w2 ⟨rfl, o2⟩
  have B_v : Bx w2 w1.heap.size #[.int .i64 0, .int .i64 0] := Bx.old (Bx.new _ _ _) o2
  have z2 := o2.size
  replace B_r := (Bx.alloc B_r _).old o2
  replace o2 : Old w1 w2 := Below.trans (b := _) oldA (Below.mono o2 leA)
  clear hx0 hx1
  have hx1 := (o2.cell (p := ⟨bb, o + 1, none⟩) hbs).trans HC1.out
  have n1 : ¬ w1.heap.size = bb := by omega
  have n2 : ¬ bb = w1.heap.size := by omega
  have n3 : ¬ w1.heap.size = w.heap.size := by omega
  have n4 : ¬ w.heap.size = w1.heap.size := by omega
  have q_v_0 : w2.cell? ⟨w1.heap.size, 0, none⟩ = some (.int .i64 0) := B_v.cell 0 rfl
  have f_v_0 := B_v.frozen 0
  have q_v := B_v.lt
  have rp := int_range p
  have rq := int_range q
  have O1 := Old.trans o1 o2
  go_wp2_with fail
  refine (spec_ParseInt q _ HQ.out).mono ?_
  rintro e w3 ⟨rfl, o3⟩
  replace B_v := (Bx.set B_v 0 (.int .i64 (rParseInt0 p))).old o3
  replace B_r := (Bx.far (p := ⟨w1.heap.size, 0, none⟩) B_r (by first | exact n3 | exact n4) _).old o3
  have z3 := o3.size
  replace o3 : Below w1.heap.size w2 w3 := Below.trans (b := _) (Below.setCell (p := ⟨w1.heap.size, 0, none⟩) (Below.refl w1.heap.size w2) (Nat.le_refl w1.heap.size) _) (Below.mono o3 (by simpa [World.setCell] using o2.size))
  have O3 := Below.trans O1 (Below.mono o3 (Nat.le_of_lt zr))
  have q_v_1 : w3.cell? ⟨w1.heap.size, 1, none⟩ = some (.int .i64 0) := B_v.cell 1 rfl
  have q_v_0 : w3.cell? ⟨w1.heap.size, 0, none⟩ = some (.int .i64 (rParseInt0 p)) := B_v.cell 0 rfl
  have f_v_1 := B_v.frozen 1
  have q_v := B_v.lt
  go_wp2_with fail
  refine (spec_FormatVec (rParseInt0 p) (rParseInt0 q) _ rp rq).mono ?_
  rintro e w4 ⟨rfl, o4⟩
  replace B_v := (Bx.set B_v 1 (.int .i64 (rParseInt0 q))).old o4
  replace B_r := (Bx.far (p := ⟨w1.heap.size, 1, none⟩) B_r (by first | exact n3 | exact n4) _).old o4
  have z4 := o4.size
  replace o4 : Below w1.heap.size w3 w4 := Below.trans (b := _) (Below.setCell (p := ⟨w1.heap.size, 1, none⟩) (Below.refl w1.heap.size w3) (Nat.le_refl w1.heap.size) _) (Below.mono o4 (by have := B_v.lt; simp [World.setCell] at z4 ⊢; omega))
  have O4 := Below.trans O3 (Below.mono o4 (Nat.le_of_lt zr))
  rw [HT.out]
  have q_v_0 : w4.cell? ⟨w1.heap.size, 0, none⟩ = some (.int .i64 (rParseInt0 p)) := B_v.cell 0 rfl
  have q_v_1 : w4.cell? ⟨w1.heap.size, 1, none⟩ = some (.int .i64 (rParseInt0 q)) := B_v.cell 1 rfl
  have q_v := B_v.lt
  go_wp2_with fail
  refine (spec_FormatVec (rParseInt0 p) (rParseInt0 q) _ rp rq).mono ?_
  rintro e w5 ⟨rfl, o5⟩
  replace B_v := B_v.old o5
  replace B_r := B_r.old o5
  replace O4 := Old.trans O4 o5
  rw [HT.out]
  have q_v_0 : w5.cell? ⟨w1.heap.size, 0, none⟩ = some (.int .i64 (rParseInt0 p)) := B_v.cell 0 rfl
  have q_v_1 : w5.cell? ⟨w1.heap.size, 1, none⟩ = some (.int .i64 (rParseInt0 q)) := B_v.cell 1 rfl
  have q_v := B_v.lt
  have q_r_0 : w5.cell? ⟨w.heap.size, 0, none⟩ = some (.int .i64 0) := B_r.cell 0 rfl
  have q_r_1 : w5.cell? ⟨w.heap.size, 1, none⟩ = some (.int .i64 0) := B_r.cell 1 rfl
  have f_r_0 := B_r.frozen 0
  have f_r_1 := B_r.frozen 1
  have q_r := B_r.lt
  go_wp2
  have e0 : ((w5.setCell ⟨w.heap.size, 0, none⟩ (.int .i64 (rParseInt0 p))).setCell ⟨w.heap.size, 1, none⟩ (.int .i64 (rParseInt0 q))).cell? ⟨w.heap.size, 0, none⟩ = some (.int .i64 (rParseInt0 p)) := (Bx.put2 B_r (.int .i64 (rParseInt0 p)) (.int .i64 (rParseInt0 q))).cell 0 rfl
  have e1 : ((w5.setCell ⟨w.heap.size, 0, none⟩ (.int .i64 (rParseInt0 p))).setCell ⟨w.heap.size, 1, none⟩ (.int .i64 (rParseInt0 q))).cell? ⟨w.heap.size, 1, none⟩ = some (.int .i64 (rParseInt0 q)) := (Bx.put2 B_r (.int .i64 (rParseInt0 p)) (.int .i64 (rParseInt0 q))).cell 1 rfl
  exact bodyPost_ret (v := .tuple #[.agg #[.int .i64 (rParseInt0 p), .int .i64 (rParseInt0 q)], .bool true]) (by simp [results, Tryd.results54, go_sem, e0, e1]) rfl ⟨rfl, Below.trans (b := _) O4 oldA⟩
theorem spec_ParseVec (s : ByteArray) (w : World) (b : s.size ≤ 1048576) :
    Calls Tryd.prog 54 #[.string s] w fun e w' => e = .returned (.tuple #[.agg #[.int .i64 (rParseVecx s), .int .i64 (rParseVecy s)], .bool (rParseVec1 s)]) ∧ Old w w' := by
  by_cases hk : okV s
  · obtain ⟨x, y, hv, hs⟩ := hk
    have hp := pv_is hv hs
    rw [hp.1, hp.2.1, hp.2.2]
    have hc := vec_cut x y
    rw [hs] at hc
    have v := valid_in hv
    have p1 := rParse_is (s := rFormatInt x) (v := x) (by omega) rfl
    have p2 := rParse_is (s := rFormatInt y) (v := y) (by omega) rfl
    have hh := spec_ParseVec_yes s (rFormatInt x) (rFormatInt y) w b hc.split (by rw [p1.1, p2.1]; unfold rFormatVec; rw [if_pos hv]; exact hs) (by have := hc.size; omega)
    rw [p1.1, p2.1] at hh
    exact hh
  · have hp := pv_not hk
    rw [hp.1, hp.2.1, hp.2.2]
    match hl : rSplitAny s ⟨#[44]⟩ with
    | [p, q] =>
      by_cases hv : rIsValidVec (rParseInt0 p) (rParseInt0 q) = true
      · have ht : rFormatVec (rParseInt0 p) (rParseInt0 q) = rFormatInt (rParseInt0 p) ++ ⟨#[44]⟩ ++ rFormatInt (rParseInt0 q) := by unfold rFormatVec; rw [if_pos hv]
        refine spec_ParseVec_no2 s p q w b hl _ ht ?_ fun e => hk ⟨_, _, hv, e⟩
        have e1 : (⟨#[44]⟩ : ByteArray).size = 1 := rfl
        rw [ByteArray.size_append, ByteArray.size_append]
        omega
      · exact spec_ParseVec_no1 s p q w b hl (by unfold rFormatVec; rw [if_neg hv])
    | [] => exact spec_ParseVec_len s w b 0 (by rw [hl]; rfl) (by omega)
    | [p] => exact spec_ParseVec_len s w b 1 (by rw [hl]; rfl) (by omega)
    | p :: q :: r :: l => exact spec_ParseVec_len s w b (l.length + 3) (by rw [hl]; rfl) (by omega)
end Go.Proofs.YtkoebpoejafgnaaDoor
