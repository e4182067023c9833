import Derived.Test.YtkoebpoejafgnaaDoorNumTxt
/-
  Texts of ints read back: both ParseInt's.
-/
namespace Go.Proofs.YtkoebpoejafgnaaDoor
set_option linter.unusedVariables false
open Go.RowKit
theorem inB_iff2 {s : ByteArray} {lo hi : Int} (h : inB s lo hi = true) : inR s lo hi := by simpa [inB] using h
theorem text_neq {a b : ByteArray} (h : ¬ a = b) : (!a.toList == b.toList) = true := by
  rw [ByteArray.toList_eq, ByteArray.toList_eq]
  simp only [Bool.not_eq_true', beq_eq_false_iff_ne]
  exact fun e => h (ByteArray.ext (Array.ext' e))
set_option maxRecDepth 100000 in
set_option maxHeartbeats 1000000 in
theorem spec_ParseInt_neg (s : ByteArray) (w : World) (b : s.size ≤ 1048576) (hs0 : 0 < s.size) (hc : (bAt s 0).toNat = 45) :
    Calls Tryd.prog 39 #[.string s] w fun e w' => e = .returned (.tuple #[.int .i64 (rParseInt0 s), .bool (rParseInt1 s)]) ∧ Old w w' := by
  obtain ⟨t, ht⟩ : ∃ t, t = (s.extract 1 s.size) := ⟨_, rfl⟩
  have HT := Lib.hid ht
  have HU : Hid (okI s → ∃ u : Nat, u ≤ 9223372036854775808 ∧ t = txt (Lib.decDigits u) ∧ rFormatInt (-(u : Int)) = s) := Lib.hid fun h => by rw [ht]; exact neg_ok h hc
  have hb0 := bAt_eq s 0 hs0
  have hc0 : (((bAt s 0).toNat : Int) == 45) = true := by simp; omega
  have hpos : decide ((0 : Int) < (s.size : Int)) = true := decide_eq_true (by omega)
  have htb : t.size ≤ 1048576 := by rw [ht, ByteArray.size_extract]; omega
  clear hc ht
  by_cases hdig : rIsDigits t = true
  · have hR : inR t 48 57 := by
      unfold rIsDigits at hdig
      rw [Bool.and_eq_true] at hdig
      exact inB_iff2 hdig.2
    have HR := Lib.hid hR
    have HD := Lib.hid hdig
    clear hR hdig
    by_cases h19 : t.size ≤ 19
    · have h19i : ¬ (19 : Int) < (t.size : Int) := by omega
      have h19d : decide ((19 : Int) < (t.size : Int)) = false := decide_eq_false h19i
      go_enter Tryd.func39, Tryd.ntmps39
      go_wp2_with fail
      rw [← HT.out]
      refine (spec_IsDigits t _ (by unfold maxLen; omega)).mono ?_
      rintro e w1 ⟨he, o1⟩
      rw [HD.out] at he
      subst he
      go_wp2
      go_loop [6, 7] (fun n i => ∃ (j q : Nat), j ≤ t.size ∧ i = .int .i64 (j : Int) ∧ n = .int .i64 (-(q : Int)) ∧ Hid (q = dq t j) ∧ q ≤ 9223372036854775808) (fun _ i => t.size - (intOf i).toNat)
      case atStart => exact ⟨0, 0, Nat.zero_le _, rfl, rfl, Lib.hid rfl, by omega⟩
      case round =>
        obtain ⟨j, q, hj, rfl, rfl, hq, hq2⟩ := hrel
        by_cases hlt : j < t.size
        · have hbj := bAt_eq t j hlt
          have hd := HR.out j hlt
          rw [hbj] at hd
          obtain ⟨d, hdd⟩ : ∃ d : Nat, (bAt t j).toNat = d := ⟨_, rfl⟩
          have hd8 : 48 ≤ d := by omega
          have hd9 : d ≤ 57 := by omega
          have Hnext : Hid (dq t (j + 1) = q * 10 + (d - 48)) := Lib.hid (by rw [dq, ← hq.out, hdd])
          have hval : ((t[j]).toNat : Int) = (d : Int) := by rw [hbj, hdd]
          have htd : (-9223372036854775808 + ((d : Int) - 48)).tdiv 10 = -(((9223372036854775808 - (d - 48)) / 10 : Nat) : Int) := by
            rw [show (-9223372036854775808 + ((d : Int) - 48)) = -((9223372036854775808 - (d - 48) : Nat) : Int) by omega, Int.neg_tdiv, Int.tdiv_eq_ediv_of_nonneg (by omega)]
            omega
          obtain ⟨Q, hQ⟩ : ∃ Q : Nat, Q = (9223372036854775808 - (d - 48)) / 10 := ⟨_, rfl⟩
          rw [← hQ] at htd
          have hQb : Q ≤ 922337203685477580 := by omega
          have HQ := Lib.hid hQ
          clear hdd hd hbj
          by_cases hov : q * 10 + (d - 48) ≤ 9223372036854775808
          · have hnl : ¬ -(q : Int) < -(Q : Int) := by omega
            clear hQ
            go_wp2
            go_round
            case rel => exact ⟨j + 1, q * 10 + (d - 48), by omega, by go_num, congrArg (Value.int .i64) (by omega), Lib.hid Hnext.out.symm, hov⟩
            case measure => simp [intOf]; omega
          · have hno : ¬ okI s := fun hk => by
              obtain ⟨u, hu, hut, hus⟩ := HU.out hk
              have e1 : dq t t.size = u := (congrArg (fun x => dq x x.size) hut).trans dec_dq
              have e2 := dq_mono t (show j + 1 ≤ t.size by omega)
              rw [Hnext.out] at e2
              omega
            have hl : -(q : Int) < -(Q : Int) := by omega
            clear hQ
            have HN := Lib.hid (rParse_not hno)
            clear hno
            go_wp2
            go_ret2
            exact ⟨by rw [HN.out.1, HN.out.2]; rfl, o1⟩
        · have hj2 : j = t.size := by omega
          subst hj2
          clear hlt
          by_cases hs : rFormatInt (-(q : Int)) = s
          · have HS := Lib.hid (rParse_is (v := (-(q : Int))) (by omega) hs)
            have HSS := Lib.hid hs
            clear hs
            go_wp2_with fail
            refine (spec_FormatInt (-(q : Int)) _ (by omega)).mono ?_
            rintro e w2 ⟨rfl, o2⟩
            rw [HSS.out]
            go_wp2
            go_ret2
            exact ⟨by rw [HS.out.1, HS.out.2]; rfl, Old.trans o1 o2⟩
          · have hno : ¬ okI s := fun hk => by
              obtain ⟨u, hu, hut, hus⟩ := HU.out hk
              have e1 : q = u := hq.out.trans ((congrArg (fun x => dq x x.size) hut).trans dec_dq)
              subst e1
              exact hs hus
            have HN := Lib.hid (rParse_not hno)
            have hs3 := text_neq hs
            clear hno
            go_wp2_with fail
            refine (spec_FormatInt (-(q : Int)) _ (by omega)).mono ?_
            rintro e w2 ⟨rfl, o2⟩
            go_wp2
            go_ret2
            exact ⟨by rw [HN.out.1, HN.out.2]; rfl, Old.trans o1 o2⟩
    · have hno : ¬ okI s := fun hk => by
        obtain ⟨u, hu, hut, hus⟩ := HU.out hk
        have := (dec_size (u := u) (by omega)).1
        rw [← hut] at this
        omega
      have h19i : (19 : Int) < (t.size : Int) := by omega
      have h19d : decide ((19 : Int) < (t.size : Int)) = true := decide_eq_true h19i
      go_enter Tryd.func39, Tryd.ntmps39
      go_wp2_with fail
      rw [← HT.out]
      refine (spec_IsDigits t _ (by unfold maxLen; omega)).mono ?_
      rintro e w1 ⟨he, o1⟩
      rw [HD.out] at he
      subst he
      have HN := Lib.hid (rParse_not hno)
      clear hno
      go_wp2
      go_ret2
      exact ⟨by rw [HN.out.1, HN.out.2]; rfl, o1⟩
  · have hno : ¬ okI s := fun hk => by
      obtain ⟨u, hu, hut, hus⟩ := HU.out hk
      have := dec_rIsDigits (u := u) (by omega)
      rw [← hut] at this
      exact hdig this
    have HD : Hid (rIsDigits t = false) := Lib.hid (by simpa using hdig)
    clear hdig
    go_enter Tryd.func39, Tryd.ntmps39
    go_wp2_with fail
    rw [← HT.out]
    refine (spec_IsDigits t _ (by unfold maxLen; omega)).mono ?_
    rintro e w1 ⟨he, o1⟩
    rw [HD.out] at he
    subst he
    have HN := Lib.hid (rParse_not hno)
    clear hno
    go_wp2
    go_ret2
    exact ⟨by rw [HN.out.1, HN.out.2]; rfl, o1⟩
set_option maxRecDepth 100000 in
set_option maxHeartbeats 1000000 in
theorem spec_ParseInt_pos (s : ByteArray) (w : World) (b : s.size ≤ 1048576) (hs0 : 0 < s.size) (hc : ¬ (bAt s 0).toNat = 45) :
    Calls Tryd.prog 39 #[.string s] w fun e w' => e = .returned (.tuple #[.int .i64 (rParseInt0 s), .bool (rParseInt1 s)]) ∧ Old w w' := by
  have HU : Hid (okI s → ∃ u : Nat, u ≤ 9223372036854775807 ∧ s = txt (Lib.decDigits u) ∧ rFormatInt (u : Int) = s) := Lib.hid fun h => by exact pos_ok h hc
  have hb0 := bAt_eq s 0 hs0
  have hc0 : (((bAt s 0).toNat : Int) == 45) = false := by simp; omega
  have hpos : decide ((0 : Int) < (s.size : Int)) = true := decide_eq_true (by omega)
  have htb : s.size ≤ 1048576 := by exact b
  clear hc
  by_cases hdig : rIsDigits s = true
  · have hR : inR s 48 57 := by
      unfold rIsDigits at hdig
      rw [Bool.and_eq_true] at hdig
      exact inB_iff2 hdig.2
    have HR := Lib.hid hR
    have HD := Lib.hid hdig
    clear hR hdig
    by_cases h19 : s.size ≤ 19
    · have h19i : ¬ (19 : Int) < (s.size : Int) := by omega
      have h19d : decide ((19 : Int) < (s.size : Int)) = false := decide_eq_false h19i
      go_enter Tryd.func39, Tryd.ntmps39
      go_wp2_with fail
      skip
      refine (spec_IsDigits s _ (by unfold maxLen; omega)).mono ?_
      rintro e w1 ⟨he, o1⟩
      rw [HD.out] at he
      subst he
      go_wp2
      go_loop [6, 7] (fun n i => ∃ (j q : Nat), j ≤ s.size ∧ i = .int .i64 (j : Int) ∧ n = .int .i64 (-(q : Int)) ∧ Hid (q = dq s j) ∧ q ≤ 9223372036854775808) (fun _ i => s.size - (intOf i).toNat)
      case atStart => exact ⟨0, 0, Nat.zero_le _, rfl, rfl, Lib.hid rfl, by omega⟩
      case round =>
        obtain ⟨j, q, hj, rfl, rfl, hq, hq2⟩ := hrel
        by_cases hlt : j < s.size
        · have hbj := bAt_eq s j hlt
          have hd := HR.out j hlt
          rw [hbj] at hd
          obtain ⟨d, hdd⟩ : ∃ d : Nat, (bAt s j).toNat = d := ⟨_, rfl⟩
          have hd8 : 48 ≤ d := by omega
          have hd9 : d ≤ 57 := by omega
          have Hnext : Hid (dq s (j + 1) = q * 10 + (d - 48)) := Lib.hid (by rw [dq, ← hq.out, hdd])
          have hval : ((s[j]).toNat : Int) = (d : Int) := by rw [hbj, hdd]
          have htd : (-9223372036854775808 + ((d : Int) - 48)).tdiv 10 = -(((9223372036854775808 - (d - 48)) / 10 : Nat) : Int) := by
            rw [show (-9223372036854775808 + ((d : Int) - 48)) = -((9223372036854775808 - (d - 48) : Nat) : Int) by omega, Int.neg_tdiv, Int.tdiv_eq_ediv_of_nonneg (by omega)]
            omega
          obtain ⟨Q, hQ⟩ : ∃ Q : Nat, Q = (9223372036854775808 - (d - 48)) / 10 := ⟨_, rfl⟩
          rw [← hQ] at htd
          have hQb : Q ≤ 922337203685477580 := by omega
          have HQ := Lib.hid hQ
          clear hdd hd hbj
          by_cases hov : q * 10 + (d - 48) ≤ 9223372036854775808
          · have hnl : ¬ -(q : Int) < -(Q : Int) := by omega
            clear hQ
            go_wp2
            go_round
            case rel => exact ⟨j + 1, q * 10 + (d - 48), by omega, by go_num, congrArg (Value.int .i64) (by omega), Lib.hid Hnext.out.symm, hov⟩
            case measure => simp [intOf]; omega
          · have hno : ¬ okI s := fun hk => by
              obtain ⟨u, hu, hut, hus⟩ := HU.out hk
              have e1 : dq s s.size = u := (congrArg (fun x => dq x x.size) hut).trans dec_dq
              have e2 := dq_mono s (show j + 1 ≤ s.size by omega)
              rw [Hnext.out] at e2
              omega
            have hl : -(q : Int) < -(Q : Int) := by omega
            clear hQ
            have HN := Lib.hid (rParse_not hno)
            clear hno
            go_wp2
            go_ret2
            exact ⟨by rw [HN.out.1, HN.out.2]; rfl, o1⟩
        · have hj2 : j = s.size := by omega
          subst hj2
          clear hlt
          by_cases hmin : q = 9223372036854775808
          · have hno : ¬ okI s := fun hk => by
              obtain ⟨u, hu, hut, hus⟩ := HU.out hk
              have e1 : q = u := hq.out.trans ((congrArg (fun x => dq x x.size) hut).trans dec_dq)
              omega
            have hqm : ((-(q : Int)) == -9223372036854775808) = true := by simp; omega
            have HN := Lib.hid (rParse_not hno)
            clear hno
            go_wp2
            go_ret2
            exact ⟨by rw [HN.out.1, HN.out.2]; rfl, o1⟩
          · have hqm : ((-(q : Int)) == -9223372036854775808) = false := by simp; omega
            by_cases hs : rFormatInt (q : Int) = s
            · have HS := Lib.hid (rParse_is (v := (q : Int)) (by omega) hs)
              have HSS := Lib.hid hs
              clear hs
              go_wp2_with fail
              refine (spec_FormatInt (q : Int) _ (by omega)).mono ?_
              rintro e w2 ⟨rfl, o2⟩
              rw [HSS.out]
              go_wp2
              go_ret2
              exact ⟨by rw [HS.out.1, HS.out.2]; rfl, Old.trans o1 o2⟩
            · have hno : ¬ okI s := fun hk => by
                obtain ⟨u, hu, hut, hus⟩ := HU.out hk
                have e1 : q = u := hq.out.trans ((congrArg (fun x => dq x x.size) hut).trans dec_dq)
                subst e1
                exact hs hus
              have HN := Lib.hid (rParse_not hno)
              have hs3 := text_neq hs
              clear hno
              go_wp2_with fail
              refine (spec_FormatInt (q : Int) _ (by omega)).mono ?_
              rintro e w2 ⟨rfl, o2⟩
              go_wp2
              go_ret2
              exact ⟨by rw [HN.out.1, HN.out.2]; rfl, Old.trans o1 o2⟩
    · have hno : ¬ okI s := fun hk => by
        obtain ⟨u, hu, hut, hus⟩ := HU.out hk
        have := (dec_size (u := u) (by omega)).1
        rw [← hut] at this
        omega
      have h19i : (19 : Int) < (s.size : Int) := by omega
      have h19d : decide ((19 : Int) < (s.size : Int)) = true := decide_eq_true h19i
      go_enter Tryd.func39, Tryd.ntmps39
      go_wp2_with fail
      skip
      refine (spec_IsDigits s _ (by unfold maxLen; omega)).mono ?_
      rintro e w1 ⟨he, o1⟩
      rw [HD.out] at he
      subst he
      have HN := Lib.hid (rParse_not hno)
      clear hno
      go_wp2
      go_ret2
      exact ⟨by rw [HN.out.1, HN.out.2]; rfl, o1⟩
  · have hno : ¬ okI s := fun hk => by
      obtain ⟨u, hu, hut, hus⟩ := HU.out hk
      have := dec_rIsDigits (u := u) (by omega)
      rw [← hut] at this
      exact hdig this
    have HD : Hid (rIsDigits s = false) := Lib.hid (by simpa using hdig)
    clear hdig
    go_enter Tryd.func39, Tryd.ntmps39
    go_wp2_with fail
    skip
    refine (spec_IsDigits s _ (by unfold maxLen; omega)).mono ?_
    rintro e w1 ⟨he, o1⟩
    rw [HD.out] at he
    subst he
    have HN := Lib.hid (rParse_not hno)
    clear hno
    go_wp2
    go_ret2
    exact ⟨by rw [HN.out.1, HN.out.2]; rfl, o1⟩
set_option maxRecDepth 100000 in
set_option maxHeartbeats 1000000 in
theorem spec_ParseInt_empty (s : ByteArray) (w : World) (h : s.size = 0) :
    Calls Tryd.prog 39 #[.string s] w fun e w' => e = .returned (.tuple #[.int .i64 (rParseInt0 s), .bool (rParseInt1 s)]) ∧ Old w w' := by
  obtain rfl : s = ByteArray.empty := text_empty h
  have hno : ¬ okI ByteArray.empty := fun hk => by
    rcases okI_cases hk with ⟨u, _, _, hd, _⟩ | ⟨u, _, hd, _⟩
    · cases hd
    · exact dec_ne u hd.symm
  have HN := Lib.hid (rParse_not hno)
  have HD : Hid (rIsDigits ByteArray.empty = false) := Lib.hid (by unfold rIsDigits; simp)
  clear hno
  go_enter Tryd.func39, Tryd.ntmps39
  go_wp2_with fail
  refine (spec_IsDigits ByteArray.empty _ (by unfold maxLen; show 0 ≤ _; omega)).mono ?_
  rintro e w1 ⟨he, o1⟩
  rw [HD.out] at he
  subst he
  go_wp2
  go_ret2
  exact ⟨by rw [HN.out.1, HN.out.2]; rfl, o1⟩
theorem spec_ParseInt (s : ByteArray) (w : World) (b : s.size ≤ 1048576) :
    Calls Tryd.prog 39 #[.string s] w fun e w' => e = .returned (.tuple #[.int .i64 (rParseInt0 s), .bool (rParseInt1 s)]) ∧ Old w w' := by
  by_cases h0 : s.size = 0
  · exact spec_ParseInt_empty s w h0
  · by_cases hc : (bAt s 0).toNat = 45
    · exact spec_ParseInt_neg s w b (by omega) hc
    · exact spec_ParseInt_pos s w b (by omega) hc
/-- The errors of package strconv hold something. -/
def KE (w : World) : Prop := (∃ tp p, w.var? Tryd.prog "strconv.ErrSyntax" = some #[.iface tp p]) ∧ (∃ tp p, w.var? Tryd.prog "strconv.ErrRange" = some #[.iface tp p])
theorem KE.old {w w' : World} (h : KE w) (o : Old w w') : KE w' := by
  obtain ⟨⟨t1, p1, h1⟩, t2, p2, h2⟩ := h
  exact ⟨⟨t1, p1, Joins.var_stays (g := 0) (by kernel_rfl) h1 o (Nat.le_refl _)⟩, t2, p2, Joins.var_stays (g := 1) (by kernel_rfl) h2 o (Nat.le_refl _)⟩
theorem atoi_ok (s : ByteArray) (w : World) (b : s.size ≤ 1048576) (v : Int) (h : Lib.atoiAll s.data.toList = .ok v) :
    Calls Tryd.prog 86 #[.string s] w fun e w' => e = .returned (.tuple #[.int .i64 v, .nilIface]) ∧ Old w w' :=
  (Tryd.strconv_Atoi_ok s (by omega) v h w).mono fun e w' hh => ⟨hh.1, by
    rcases hh.2 with rfl | ⟨t, rfl⟩
    · exact Old.refl _
    · exact Lib.bytesWorld_below _ _ _⟩
theorem atoi_bad (s : ByteArray) (w : World) (b : s.size ≤ 1048576) (h : ∀ v, ¬ Lib.atoiAll s.data.toList = .ok v) (E : KE w) :
    Calls Tryd.prog 86 #[.string s] w fun e w' => ∃ z N, e = .returned (.tuple #[.int .i64 z, .iface 146 (.pointer (some ⟨N, 0, none⟩))]) ∧ Old w w' := by
  obtain ⟨⟨t1, p1, h1⟩, t2, p2, h2⟩ := E
  match hq : Lib.atoiAll s.data.toList with
  | .ok v => exact absurd hq (h v)
  | .syntax => exact (Tryd.strconv_Atoi_syntax_var s (by omega) hq t1 p1 w h1).mono fun e w' ⟨N, he, _, _, hb⟩ => ⟨_, N, he, hb⟩
  | .range => exact (Tryd.strconv_Atoi_range_var s (by omega) hq t2 p2 w h2).mono fun e w' ⟨N, he, _, _, hb⟩ => ⟨_, N, he, hb⟩
set_option maxRecDepth 100000 in
set_option maxHeartbeats 1000000 in
theorem impl_ParseInt_yes (s : ByteArray) (w : World) (b : s.size ≤ 1048576) (v : Int) (hv : -9223372036854775808 ≤ v ∧ v ≤ 9223372036854775807) (h : Lib.atoiAll s.data.toList = .ok v) (hs : rFormatInt v = s) (K : KT w) :
    Calls Tryd.prog 40 #[.string s] w fun e w' => e = .returned (.tuple #[.int .i64 v, .bool true]) ∧ Old w w' := by
  have HV := Lib.hid hv
  have HS := Lib.hid hs
  have HA := Lib.hid h
  clear hv hs h
  go_enter Tryd.func40, Tryd.ntmps40
  go_wp2_with fail
  refine (atoi_ok s _ b v HA.out).mono ?_
  rintro e w1 ⟨rfl, o1⟩
  go_wp2_with fail
  refine (itoa_any v _ HV.out (K.old o1)).mono ?_
  rintro e w2 ⟨rfl, o2⟩
  rw [HS.out]
  go_wp2
  go_ret2
  exact ⟨rfl, Old.trans o1 o2⟩
set_option maxRecDepth 100000 in
set_option maxHeartbeats 1000000 in
theorem impl_ParseInt_no1 (s : ByteArray) (w : World) (b : s.size ≤ 1048576) (v : Int) (hv : -9223372036854775808 ≤ v ∧ v ≤ 9223372036854775807) (h : Lib.atoiAll s.data.toList = .ok v) (hs : ¬ rFormatInt v = s) (K : KT w) :
    Calls Tryd.prog 40 #[.string s] w fun e w' => e = .returned (.tuple #[.int .i64 0, .bool false]) ∧ Old w w' := by
  have HV := Lib.hid hv
  have HA := Lib.hid h
  have hs3 := text_neq hs
  clear hv hs h
  go_enter Tryd.func40, Tryd.ntmps40
  go_wp2_with fail
  refine (atoi_ok s _ b v HA.out).mono ?_
  rintro e w1 ⟨rfl, o1⟩
  go_wp2_with fail
  refine (itoa_any v _ HV.out (K.old o1)).mono ?_
  rintro e w2 ⟨rfl, o2⟩
  go_wp2
  go_ret2
  exact ⟨rfl, Old.trans o1 o2⟩
set_option maxRecDepth 100000 in
set_option maxHeartbeats 1000000 in
theorem impl_ParseInt_no2 (s : ByteArray) (w : World) (b : s.size ≤ 1048576) (h : ∀ v, ¬ Lib.atoiAll s.data.toList = .ok v) (E : KE w) :
    Calls Tryd.prog 40 #[.string s] w fun e w' => e = .returned (.tuple #[.int .i64 0, .bool false]) ∧ Old w w' := by
  have HA := Lib.hid h
  clear h
  go_enter Tryd.func40, Tryd.ntmps40
  go_wp2_with fail
  refine (atoi_bad s _ b HA.out E).mono ?_
  rintro e w1 ⟨z, N, rfl, o1⟩
  go_wp2
  go_ret2
  exact ⟨rfl, o1⟩
theorem impl_ParseInt (s : ByteArray) (w : World) (b : s.size ≤ 1048576) (K : KT w) (E : KE w) :
    Calls Tryd.prog 40 #[.string s] w fun e w' => e = .returned (.tuple #[.int .i64 (rParseInt0 s), .bool (rParseInt1 s)]) ∧ Old w w' := by
  by_cases hk : okI s
  · obtain ⟨v, hv, hs⟩ := hk
    rw [(rParse_is hv hs).1, (rParse_is hv hs).2]
    refine impl_ParseInt_yes s w b v hv ?_ hs K
    rw [← hs, rFormatInt_data]
    exact atoi_itoa v hv.1 hv.2
  · rw [(rParse_not hk).1, (rParse_not hk).2]
    by_cases hv : ∃ v, Lib.atoiAll s.data.toList = .ok v
    · obtain ⟨v, h⟩ := hv
      have hb := Lib.atoiAll_bounds h
      exact impl_ParseInt_no1 s w b v hb h (fun e => hk ⟨v, hb, e⟩) K
    · exact impl_ParseInt_no2 s w b (fun v h => hv ⟨v, h⟩) E
end Go.Proofs.YtkoebpoejafgnaaDoor
